/- Layer 5's reference: Near by contract. -/
import Derived.Test.YtcjjgdoafkdeaaaGreatDoorWs
import Derived.Test.YtcjjgdoafkdeaaaGreatDoorQh
namespace Go.Proofs.YtcjjgdoafkdeaaaGreatDoor
open Go.RowKit Go.Extern.Stop Go.Stop Go.Extern Go.Sort
set_option linter.unusedVariables false
set_option linter.unusedSimpArgs false

theorem ret_near {W : World} {bb : Nat} (x y : Value) (hW : W.rangeAt bb 0 [x, y]) (tmps : Array Value) (h2 : tmps.getD 4 undef = .pointer (some ⟨bb, 0, none⟩)) :
    (results Tryz.f23 tmps).run Tryz.prog W = .ok (.agg #[x, y]) W := by
  have hl := run_loadVar_mid (P := Tryz.prog) W bb 0 27 [x, y] _ hW Tryz.underlying27 rfl (by kernel_rfl)
  unfold results
  rw [show Tryz.f23.results = #[.cell 4 27] from rfl]
  have k2 : tmps[4]?.getD undef = .pointer (some ⟨bb, 0, none⟩) := by simpa using h2
  simp [k2, asAddr, hl, Sem.run_bind, Sem.run_pure]
/-- The lowest digit's parity is the number's. -/
theorem dig_even (q : Nat) : q % Dg.D % 2 = q % 2 := Nat.mod_mod_of_dvd q (by decide)
theorem rn_first {w : World} {q : Nat} {x : Option Addr} {l c : Nat} (h : RN w (.slice x l c) q) (hq : 0 < q) : 0 < l ∧ l ≤ c ∧ ∃ g o, x = some ⟨g, o, none⟩ ∧ g < w.heap.size ∧ w.cell? ⟨g, o, none⟩ = some (.int .u64 ((q % Dg.D : Nat) : Int)) := by
  have hl := digs_len_pos q hq
  rcases h.2 with ⟨h1, h2⟩ | ⟨g, o, c2, hv, hc, hm, hlt, hcell⟩
  · rw [h2] at hl; exact absurd hl (by decide)
  · injection hv with e1 e2 e3
    subst e1 e2 e3
    refine ⟨hl, hc, g, o, rfl, hlt, ?_⟩
    have h0 := hcell 0 hl
    rw [Nat.add_zero] at h0
    rw [h0]
    have : (Dg.digs q)[0]'hl = q % Dg.D := by
      have e := Dg.digs_pos q hq
      simp only [e, List.getElem_cons_zero]
    rw [this]; rfl
/-- Of a part and of the whole, by the same measure. -/
theorem roundN_scale (a d g : Nat) (m : Int) (hg : 0 < g) : roundN (a * g) (d * g) m = roundN a d m := by
  unfold roundN
  rw [Nat.mul_div_mul_right _ _ hg, Nat.mul_mod_mul_right, ← Nat.add_mul]
  have e1 : d * g < (a % d + a % d) * g ↔ d < a % d + a % d := ⟨fun h => Nat.lt_of_mul_lt_mul_right h, fun h => Nat.mul_lt_mul_of_pos_right h hg⟩
  have e2 : (a % d + a % d) * g = d * g ↔ a % d + a % d = d := ⟨fun h => Nat.eq_of_mul_eq_mul_right hg h, fun h => by rw [h]⟩
  simp only [e1, e2]
set_option maxRecDepth 100000 in
set_option maxHeartbeats 8000000 in
theorem near_1ltz (sb : Bool) (vx vy : Value) (a b : Nat) (w : World) (hx : RN w vx a) (hy : RN w vy b) (k : Nat) (ha : a < Dg.D ^ k) (hb : b < Dg.D ^ k) (hk : k ≤ 400) (hb0 : 0 < b) (hc : a % b + a % b < b) (hq : a / b = 0) :
    Calls Tryz.prog 23 #[.agg #[.bool sb, vx, vy], .int .i64 1] w fun e w' => (∃ v, e = .returned (.agg #[.bool (sb && decide (0 < a / b)), v]) ∧ RN w' v (a / b)) ∧ Gr w w' := by
  obtain ⟨ax, lx, cx, rfl⟩ := rn_sl hx
  obtain ⟨ay, ly, cy, rfl⟩ := rn_sl hy
  have h1 := heap_alloc_new w (.cells #[.bool sb, .slice ax lx cx, .slice ay ly cy] 29)
  have h3 := heap_alloc_new (w.alloc (.cells #[.bool sb, .slice ax lx cx, .slice ay ly cy] 29)) (.cells #[.bool false, .slice none 0 0] 27)
  rw [size_al] at h3
  have g1 : Gr w (w.alloc (.cells #[.bool sb, .slice ax lx cx, .slice ay ly cy] 29)) := (Gr.rf w).alloc (Nat.le_refl _) _
  have g2 : Gr (w.alloc (.cells #[.bool sb, .slice ax lx cx, .slice ay ly cy] 29)) ((w.alloc (.cells #[.bool sb, .slice ax lx cx, .slice ay ly cy] 29)).alloc (.cells #[.bool false, .slice none 0 0] 27)) := (Gr.rf _).alloc (Nat.le_refl _) _
  have hsz : ((w.alloc (.cells #[.bool sb, .slice ax lx cx, .slice ay ly cy] 29)).alloc (.cells #[.bool false, .slice none 0 0] 27)).heap.size = w.heap.size + 2 := by rw [size_al, size_al]
  have h1 := g2.heap h1
  have hS : KeepS w (w.heap.size + 1) 2 [(w.heap.size, 0, .bool sb), (w.heap.size, 1, .slice ax lx cx), (w.heap.size, 2, .slice ay ly cy)] [(.slice ax lx cx, a), (.slice ay ly cy, b)] ((w.alloc (.cells #[.bool sb, .slice ax lx cx, .slice ay ly cy] 29)).alloc (.cells #[.bool false, .slice none 0 0] 27)) := by
    refine ⟨g1.tr g2, fun p hp => ?_, fun p hp => ?_, ⟨by omega, by omega⟩, fun j hj => ?_⟩
    · simp only [List.mem_cons, List.not_mem_nil, or_false] at hp
      rcases hp with rfl | rfl
      · exact hx.gr (g1.tr g2)
      · exact hy.gr (g1.tr g2)
    · simp only [List.mem_cons, List.not_mem_nil, or_false] at hp
      rcases hp with rfl | rfl | rfl
      · exact ⟨heap_cell h1 0, by show w.heap.size ≠ _; omega, by show w.heap.size < _; omega⟩
      · exact ⟨heap_cell h1 1, by show w.heap.size ≠ _; omega, by show w.heap.size < _; omega⟩
      · exact ⟨heap_cell h1 2, by show w.heap.size ≠ _; omega, by show w.heap.size < _; omega⟩
    · rcases j with _ | _ | j
      · exact ⟨heap_frz h3 0, _, heap_cell h3 0, fun n h => by cases h⟩
      · exact ⟨heap_frz h3 1, _, heap_cell h3 1, fun n h => by cases h⟩
      · omega
  have HAL : Hid (∀ w', KeepS w (w.heap.size + 1) 2 [(w.heap.size, 0, .bool sb), (w.heap.size, 1, .slice ax lx cx), (w.heap.size, 2, .slice ay ly cy)] [(.slice ax lx cx, a), (.slice ay ly cy, b)] w' → (KeepS w (w.heap.size + 1) 2 [(w.heap.size, 0, .bool sb), (w.heap.size, 1, .slice ax lx cx), (w.heap.size, 2, .slice ay ly cy)] [(.slice ax lx cx, a), (.slice ay ly cy, b)] w' ∧ w'.cell? ⟨w.heap.size, 0, none⟩ = some (.bool sb) ∧ w'.cell? ⟨w.heap.size, 1, none⟩ = some (.slice ax lx cx) ∧ w'.cell? ⟨w.heap.size, 2, none⟩ = some (.slice ay ly cy))) := Lib.hid (fun w' h => ⟨h, h.cell (w.heap.size, 0, .bool sb) (by simp), h.cell (w.heap.size, 1, .slice ax lx cx) (by simp), h.cell (w.heap.size, 2, .slice ay ly cy) (by simp)⟩)
  have HS := Lib.hid hS
  have hqk : a / b < Dg.D ^ k := b_div ha
  have hrk : a % b < Dg.D ^ k := b_mod ha
  have HDV : Hid (∀ w', KeepS w (w.heap.size + 1) 2 [(w.heap.size, 0, .bool sb), (w.heap.size, 1, .slice ax lx cx), (w.heap.size, 2, .slice ay ly cy)] [(.slice ax lx cx, a), (.slice ay ly cy, b)] w' → Calls Tryz.prog 84 #[.slice ax lx cx, .slice ay ly cy] w' fun e w2 => (∃ q r, e = .returned (.tuple #[q, r]) ∧ RN w2 q (a / b) ∧ RN w2 r (a % b)) ∧ Gr w' w2) := Lib.hid (fun w' h => r_div (h.rn (.slice ax lx cx, a) (by simp)) (h.rn (.slice ay ly cy, b) (by simp)) ha hb (by omega) hb0)
  have HO2 : Hid (∀ w', Calls Tryz.prog 27 #[.int .u64 2] w' fun e w2 => (∃ r, e = .returned r ∧ RN w2 r 2) ∧ Gr w' w2) := Lib.hid (fun w' => r_ofU 2 (by decide) w')
  have HO1 : Hid (∀ w', Calls Tryz.prog 27 #[.int .u64 1] w' fun e w2 => (∃ r, e = .returned r ∧ RN w2 r 1) ∧ Gr w' w2) := Lib.hid (fun w' => r_ofU 1 (by decide) w')
  have HBB := Lib.hid (And.intro hqk hrk)
  have HBD := Lib.hid (And.intro hb hk)
  have HCC := Lib.hid hc
  have HQ0 := Lib.hid hq
  generalize hqe : a / b = q at *
  generalize hre : a % b = r at *
  clear hx hy h1 h3 g1 g2 hsz hS ha hb hb0 hqk hrk hqe hre hc hk hq
  obtain ⟨dz, hdz⟩ : ∃ dz, dz = decide (0 < q) := ⟨_, rfl⟩
  have HDZ := Lib.hid hdz
  rw [← hdz]
  clear hdz
  go_enter Tryz.func23, Tryz.ntmps23
  obtain ⟨_, c0, c1, c2⟩ := HAL.out _ HS.out
  go_wp2_with fail
  generalize (w.alloc (.cells #[.bool sb, .slice ax lx cx, .slice ay ly cy] 29)).alloc (.cells #[.bool false, .slice none 0 0] 27) = wz at *
  refine (HDV.out _ HS.out).mono ?_
  rintro ev w1 ⟨⟨vq, vr, rfl, hvq, hvr⟩, hg1⟩
  obtain ⟨aq, lq, cq, rfl⟩ := rn_sl hvq
  obtain ⟨ar, lr, cr, rfl⟩ := rn_sl hvr
  have HVQ := Lib.hid hvq
  have HVR := Lib.hid hvr
  have HS1 := Lib.hid (KeepS.gr HS.out hg1)
  have HSD := Lib.hid (KeepS.gr HS1.out (Gr.drew (Gr.rf _) 1))
  have HVRD := Lib.hid (HVR.out.gr (Gr.drew (Gr.rf w1) 1))
  have HCM : Hid (∀ w' x, RN w' x (r * 2) → KeepS w (w.heap.size + 1) 2 [(w.heap.size, 0, .bool sb), (w.heap.size, 1, .slice ax lx cx), (w.heap.size, 2, .slice ay ly cy)] [(.slice ax lx cx, a), (.slice ay ly cy, b)] w' → Calls Tryz.prog 37 #[x, .slice ay ly cy] w' fun e w2 => e = .returned (.int .i64 (-1)) ∧ Gr w' w2) := Lib.hid (fun w' x h hs => r_cmp (k := k + 1) h (hs.rn (.slice ay ly cy, b) (by simp)) (b_mul HBB.out.2 (show 2 < Dg.D ^ 1 by decide) rfl) (b_up HBD.out.1 (by omega)) (by have := HBD.out.2; omega) (cmpN_lt (by have := HCC.out; omega)))
  have HMU : Hid (∀ w' x, RN w' x 2 → Gr w1.drew w' → Calls Tryz.prog 80 #[.slice ar lr cr, x] w' fun e w2 => (∃ v, e = .returned v ∧ RN w2 v (r * 2)) ∧ Gr w' w2) := Lib.hid (fun w' x h hg => r_mul (k := k + 1) (HVRD.out.gr hg) h (b_up HBB.out.2 (by omega)) (b_up (show 2 < Dg.D ^ 1 by decide) (by omega)) (by have := HBD.out.2; omega))
  clear hvq hvr hg1 c0 c1 c2
  have HALG : Hid (∀ w', KeepS w (w.heap.size + 1) 2 [(w.heap.size, 0, .bool sb), (w.heap.size, 1, .slice ax lx cx), (w.heap.size, 2, .slice ay ly cy)] [(.slice ax lx cx, a), (.slice ay ly cy, b)] w' → Gr w1.drew w' → ((KeepS w (w.heap.size + 1) 2 [(w.heap.size, 0, .bool sb), (w.heap.size, 1, .slice ax lx cx), (w.heap.size, 2, .slice ay ly cy)] [(.slice ax lx cx, a), (.slice ay ly cy, b)] w' ∧ Gr w1.drew w') ∧ w'.cell? ⟨w.heap.size, 0, none⟩ = some (.bool sb) ∧ w'.cell? ⟨w.heap.size, 1, none⟩ = some (.slice ax lx cx) ∧ w'.cell? ⟨w.heap.size, 2, none⟩ = some (.slice ay ly cy))) := Lib.hid (fun w' h hg => ⟨⟨h, hg⟩, (HAL.out w' h).2⟩)
  go_wp2_with fail
  go_region_held3 (fun w' => (KeepS w (w.heap.size + 1) 2 [(w.heap.size, 0, .bool sb), (w.heap.size, 1, .slice ax lx cx), (w.heap.size, 2, .slice ay ly cy)] [(.slice ax lx cx, a), (.slice ay ly cy, b)] w' ∧ Gr w1.drew w') ∧ w'.cell? ⟨w.heap.size, 0, none⟩ = some (.bool sb) ∧ w'.cell? ⟨w.heap.size, 1, none⟩ = some (.slice ax lx cx) ∧ w'.cell? ⟨w.heap.size, 2, none⟩ = some (.slice ay ly cy))
    (first | exact HALG.out _ HSD.out (Gr.rf _) | exact HALG.out _ hs3 hq3 | exact HALG.out _ hs4 hq4 | exact HALG.out _ hs5 hq5 | fail)
    (first
      | (go_at_call 27; go_split_ands; refine (HO2.out _).mono ?_; rintro ev w3 ⟨⟨r3, rfl, hr3⟩, hg3⟩; have hs3 := KeepS.gr (by assumption) hg3; have hq3 : Gr w1.drew w3 := Gr.tr (by assumption) hg3)
      | (go_at_call 80; go_split_ands; refine (HMU.out _ _ hr3 (by assumption)).mono ?_; rintro ev w4 ⟨⟨r4, rfl, hr4⟩, hg4⟩; have hs4 := KeepS.gr (by assumption) hg4; have hq4 : Gr w1.drew w4 := Gr.tr (by assumption) hg4)
      | (go_at_call 37; go_split_ands; refine (HCM.out _ _ hr4 (by assumption)).mono ?_; rintro ev w5 ⟨rfl, hg5⟩; have hs5 := KeepS.gr (by assumption) hg5; have hq5 : Gr w1.drew w5 := Gr.tr (by assumption) hg5))
  have HS5 := Lib.hid hs5
  have hvq5 := HVQ.out.gr ((Gr.drew (Gr.rf w1) 1).tr hq5)
  have HVQ5 := Lib.hid hvq5
  have hlq : lq = 0 := by have h1 := (digs_len0 q).2 HQ0.out; obtain ⟨x, c, h2⟩ := rn_len hvq5; injection h2 with _ h2; omega
  have hb1 : decide (0 < (lq : Int)) = false := decide_eq_false (by omega)
  have hb1n : decide (0 < lq) = false := decide_eq_false (by omega)
  clear hlq
  obtain ⟨_, c0, c1, c2⟩ := HAL.out _ HS5.out
  clear hs3 hs4 hs5 hq3 hq4 hq5 hg3 hg4 hg5 hr3 hr4 hvq5 HCM HMU HALG
  go_wp2_with fail
  have HR7 := HVQ5
  have HS7 := HS5
  have hin := rInt_calls sb _ q _ HR7.out
  rw [← HDZ.out] at hin
  have HIN := Lib.hid hin
  clear hin
  refine HIN.out.mono ?_
  rintro ev w8 ⟨rfl, hg8⟩
  have HR8 := Lib.hid (HR7.out.gr hg8)
  have HS8 := Lib.hid (KeepS.gr HS7.out hg8)
  obtain ⟨f0, u0, z0, k0⟩ := HS8.out.2.2.2.2 0 (by decide)
  obtain ⟨f1, u1, z1, k1⟩ := HS8.out.2.2.2.2 1 (by decide)
  have HE := Lib.hid (fun x y => two_set w8 (w.heap.size + 1) x y _ _ z0 z1 k0 k1)
  clear hg8
  go_wp2
  (try simp only [Exit.inBlock, Exit.then])
  refine bodyPost_ret (ret_near _ _ (HE.out _ _).1 _ rfl) rfl ?_
  exact ⟨⟨_, rfl, show RN _ _ _ from (HE.out _ _).2.1 _ _ HR8.out⟩, (HE.out _ _).2.2 w HS8.out.1 (by omega)⟩
set_option maxRecDepth 100000 in
set_option maxHeartbeats 8000000 in
theorem near_1ltq (sb : Bool) (vx vy : Value) (a b : Nat) (w : World) (hx : RN w vx a) (hy : RN w vy b) (k : Nat) (ha : a < Dg.D ^ k) (hb : b < Dg.D ^ k) (hk : k ≤ 400) (hb0 : 0 < b) (hc : a % b + a % b < b) (hq : a / b ≠ 0) :
    Calls Tryz.prog 23 #[.agg #[.bool sb, vx, vy], .int .i64 1] w fun e w' => (∃ v, e = .returned (.agg #[.bool (sb && decide (0 < a / b)), v]) ∧ RN w' v (a / b)) ∧ Gr w w' := by
  obtain ⟨ax, lx, cx, rfl⟩ := rn_sl hx
  obtain ⟨ay, ly, cy, rfl⟩ := rn_sl hy
  have h1 := heap_alloc_new w (.cells #[.bool sb, .slice ax lx cx, .slice ay ly cy] 29)
  have h3 := heap_alloc_new (w.alloc (.cells #[.bool sb, .slice ax lx cx, .slice ay ly cy] 29)) (.cells #[.bool false, .slice none 0 0] 27)
  rw [size_al] at h3
  have g1 : Gr w (w.alloc (.cells #[.bool sb, .slice ax lx cx, .slice ay ly cy] 29)) := (Gr.rf w).alloc (Nat.le_refl _) _
  have g2 : Gr (w.alloc (.cells #[.bool sb, .slice ax lx cx, .slice ay ly cy] 29)) ((w.alloc (.cells #[.bool sb, .slice ax lx cx, .slice ay ly cy] 29)).alloc (.cells #[.bool false, .slice none 0 0] 27)) := (Gr.rf _).alloc (Nat.le_refl _) _
  have hsz : ((w.alloc (.cells #[.bool sb, .slice ax lx cx, .slice ay ly cy] 29)).alloc (.cells #[.bool false, .slice none 0 0] 27)).heap.size = w.heap.size + 2 := by rw [size_al, size_al]
  have h1 := g2.heap h1
  have hS : KeepS w (w.heap.size + 1) 2 [(w.heap.size, 0, .bool sb), (w.heap.size, 1, .slice ax lx cx), (w.heap.size, 2, .slice ay ly cy)] [(.slice ax lx cx, a), (.slice ay ly cy, b)] ((w.alloc (.cells #[.bool sb, .slice ax lx cx, .slice ay ly cy] 29)).alloc (.cells #[.bool false, .slice none 0 0] 27)) := by
    refine ⟨g1.tr g2, fun p hp => ?_, fun p hp => ?_, ⟨by omega, by omega⟩, fun j hj => ?_⟩
    · simp only [List.mem_cons, List.not_mem_nil, or_false] at hp
      rcases hp with rfl | rfl
      · exact hx.gr (g1.tr g2)
      · exact hy.gr (g1.tr g2)
    · simp only [List.mem_cons, List.not_mem_nil, or_false] at hp
      rcases hp with rfl | rfl | rfl
      · exact ⟨heap_cell h1 0, by show w.heap.size ≠ _; omega, by show w.heap.size < _; omega⟩
      · exact ⟨heap_cell h1 1, by show w.heap.size ≠ _; omega, by show w.heap.size < _; omega⟩
      · exact ⟨heap_cell h1 2, by show w.heap.size ≠ _; omega, by show w.heap.size < _; omega⟩
    · rcases j with _ | _ | j
      · exact ⟨heap_frz h3 0, _, heap_cell h3 0, fun n h => by cases h⟩
      · exact ⟨heap_frz h3 1, _, heap_cell h3 1, fun n h => by cases h⟩
      · omega
  have HAL : Hid (∀ w', KeepS w (w.heap.size + 1) 2 [(w.heap.size, 0, .bool sb), (w.heap.size, 1, .slice ax lx cx), (w.heap.size, 2, .slice ay ly cy)] [(.slice ax lx cx, a), (.slice ay ly cy, b)] w' → (KeepS w (w.heap.size + 1) 2 [(w.heap.size, 0, .bool sb), (w.heap.size, 1, .slice ax lx cx), (w.heap.size, 2, .slice ay ly cy)] [(.slice ax lx cx, a), (.slice ay ly cy, b)] w' ∧ w'.cell? ⟨w.heap.size, 0, none⟩ = some (.bool sb) ∧ w'.cell? ⟨w.heap.size, 1, none⟩ = some (.slice ax lx cx) ∧ w'.cell? ⟨w.heap.size, 2, none⟩ = some (.slice ay ly cy))) := Lib.hid (fun w' h => ⟨h, h.cell (w.heap.size, 0, .bool sb) (by simp), h.cell (w.heap.size, 1, .slice ax lx cx) (by simp), h.cell (w.heap.size, 2, .slice ay ly cy) (by simp)⟩)
  have HS := Lib.hid hS
  have hqk : a / b < Dg.D ^ k := b_div ha
  have hrk : a % b < Dg.D ^ k := b_mod ha
  have HDV : Hid (∀ w', KeepS w (w.heap.size + 1) 2 [(w.heap.size, 0, .bool sb), (w.heap.size, 1, .slice ax lx cx), (w.heap.size, 2, .slice ay ly cy)] [(.slice ax lx cx, a), (.slice ay ly cy, b)] w' → Calls Tryz.prog 84 #[.slice ax lx cx, .slice ay ly cy] w' fun e w2 => (∃ q r, e = .returned (.tuple #[q, r]) ∧ RN w2 q (a / b) ∧ RN w2 r (a % b)) ∧ Gr w' w2) := Lib.hid (fun w' h => r_div (h.rn (.slice ax lx cx, a) (by simp)) (h.rn (.slice ay ly cy, b) (by simp)) ha hb (by omega) hb0)
  have HO2 : Hid (∀ w', Calls Tryz.prog 27 #[.int .u64 2] w' fun e w2 => (∃ r, e = .returned r ∧ RN w2 r 2) ∧ Gr w' w2) := Lib.hid (fun w' => r_ofU 2 (by decide) w')
  have HO1 : Hid (∀ w', Calls Tryz.prog 27 #[.int .u64 1] w' fun e w2 => (∃ r, e = .returned r ∧ RN w2 r 1) ∧ Gr w' w2) := Lib.hid (fun w' => r_ofU 1 (by decide) w')
  have HBB := Lib.hid (And.intro hqk hrk)
  have HBD := Lib.hid (And.intro hb hk)
  have HCC := Lib.hid hc
  have HQ0 := Lib.hid hq
  generalize hqe : a / b = q at *
  generalize hre : a % b = r at *
  clear hx hy h1 h3 g1 g2 hsz hS ha hb hb0 hqk hrk hqe hre hc hk hq
  obtain ⟨dz, hdz⟩ : ∃ dz, dz = decide (0 < q) := ⟨_, rfl⟩
  have HDZ := Lib.hid hdz
  rw [← hdz]
  clear hdz
  go_enter Tryz.func23, Tryz.ntmps23
  obtain ⟨_, c0, c1, c2⟩ := HAL.out _ HS.out
  go_wp2_with fail
  generalize (w.alloc (.cells #[.bool sb, .slice ax lx cx, .slice ay ly cy] 29)).alloc (.cells #[.bool false, .slice none 0 0] 27) = wz at *
  refine (HDV.out _ HS.out).mono ?_
  rintro ev w1 ⟨⟨vq, vr, rfl, hvq, hvr⟩, hg1⟩
  obtain ⟨aq, lq, cq, rfl⟩ := rn_sl hvq
  obtain ⟨ar, lr, cr, rfl⟩ := rn_sl hvr
  have HVQ := Lib.hid hvq
  have HVR := Lib.hid hvr
  have HS1 := Lib.hid (KeepS.gr HS.out hg1)
  have HSD := Lib.hid (KeepS.gr HS1.out (Gr.drew (Gr.rf _) 1))
  have HVRD := Lib.hid (HVR.out.gr (Gr.drew (Gr.rf w1) 1))
  have HCM : Hid (∀ w' x, RN w' x (r * 2) → KeepS w (w.heap.size + 1) 2 [(w.heap.size, 0, .bool sb), (w.heap.size, 1, .slice ax lx cx), (w.heap.size, 2, .slice ay ly cy)] [(.slice ax lx cx, a), (.slice ay ly cy, b)] w' → Calls Tryz.prog 37 #[x, .slice ay ly cy] w' fun e w2 => e = .returned (.int .i64 (-1)) ∧ Gr w' w2) := Lib.hid (fun w' x h hs => r_cmp (k := k + 1) h (hs.rn (.slice ay ly cy, b) (by simp)) (b_mul HBB.out.2 (show 2 < Dg.D ^ 1 by decide) rfl) (b_up HBD.out.1 (by omega)) (by have := HBD.out.2; omega) (cmpN_lt (by have := HCC.out; omega)))
  have HMU : Hid (∀ w' x, RN w' x 2 → Gr w1.drew w' → Calls Tryz.prog 80 #[.slice ar lr cr, x] w' fun e w2 => (∃ v, e = .returned v ∧ RN w2 v (r * 2)) ∧ Gr w' w2) := Lib.hid (fun w' x h hg => r_mul (k := k + 1) (HVRD.out.gr hg) h (b_up HBB.out.2 (by omega)) (b_up (show 2 < Dg.D ^ 1 by decide) (by omega)) (by have := HBD.out.2; omega))
  clear hvq hvr hg1 c0 c1 c2
  have HALG : Hid (∀ w', KeepS w (w.heap.size + 1) 2 [(w.heap.size, 0, .bool sb), (w.heap.size, 1, .slice ax lx cx), (w.heap.size, 2, .slice ay ly cy)] [(.slice ax lx cx, a), (.slice ay ly cy, b)] w' → Gr w1.drew w' → ((KeepS w (w.heap.size + 1) 2 [(w.heap.size, 0, .bool sb), (w.heap.size, 1, .slice ax lx cx), (w.heap.size, 2, .slice ay ly cy)] [(.slice ax lx cx, a), (.slice ay ly cy, b)] w' ∧ Gr w1.drew w') ∧ w'.cell? ⟨w.heap.size, 0, none⟩ = some (.bool sb) ∧ w'.cell? ⟨w.heap.size, 1, none⟩ = some (.slice ax lx cx) ∧ w'.cell? ⟨w.heap.size, 2, none⟩ = some (.slice ay ly cy))) := Lib.hid (fun w' h hg => ⟨⟨h, hg⟩, (HAL.out w' h).2⟩)
  go_wp2_with fail
  go_region_held3 (fun w' => (KeepS w (w.heap.size + 1) 2 [(w.heap.size, 0, .bool sb), (w.heap.size, 1, .slice ax lx cx), (w.heap.size, 2, .slice ay ly cy)] [(.slice ax lx cx, a), (.slice ay ly cy, b)] w' ∧ Gr w1.drew w') ∧ w'.cell? ⟨w.heap.size, 0, none⟩ = some (.bool sb) ∧ w'.cell? ⟨w.heap.size, 1, none⟩ = some (.slice ax lx cx) ∧ w'.cell? ⟨w.heap.size, 2, none⟩ = some (.slice ay ly cy))
    (first | exact HALG.out _ HSD.out (Gr.rf _) | exact HALG.out _ hs3 hq3 | exact HALG.out _ hs4 hq4 | exact HALG.out _ hs5 hq5 | fail)
    (first
      | (go_at_call 27; go_split_ands; refine (HO2.out _).mono ?_; rintro ev w3 ⟨⟨r3, rfl, hr3⟩, hg3⟩; have hs3 := KeepS.gr (by assumption) hg3; have hq3 : Gr w1.drew w3 := Gr.tr (by assumption) hg3)
      | (go_at_call 80; go_split_ands; refine (HMU.out _ _ hr3 (by assumption)).mono ?_; rintro ev w4 ⟨⟨r4, rfl, hr4⟩, hg4⟩; have hs4 := KeepS.gr (by assumption) hg4; have hq4 : Gr w1.drew w4 := Gr.tr (by assumption) hg4)
      | (go_at_call 37; go_split_ands; refine (HCM.out _ _ hr4 (by assumption)).mono ?_; rintro ev w5 ⟨rfl, hg5⟩; have hs5 := KeepS.gr (by assumption) hg5; have hq5 : Gr w1.drew w5 := Gr.tr (by assumption) hg5))
  have HS5 := Lib.hid hs5
  have hvq5 := HVQ.out.gr ((Gr.drew (Gr.rf w1) 1).tr hq5)
  have HVQ5 := Lib.hid hvq5
  obtain ⟨hlq, hlc, gq, oq, rfl, hgl, hcl⟩ := rn_first hvq5 (Nat.pos_of_ne_zero HQ0.out)
  have hb1 : decide (0 < (lq : Int)) = true := decide_eq_true (by omega)
  have hb1n : decide (0 < lq) = true := decide_eq_true hlq
  have hlqi : (0 : Int) < (lq : Int) := by omega
  obtain ⟨ob, hob, hobn⟩ : ∃ ob : Bool, (((q % Dg.D : Nat) : Int) % 2 == 1) = ob ∧ (q % 2 = 1 ↔ ob = true) := ⟨_, rfl, by rw [← dig_even q]; simp; omega⟩
  generalize q % Dg.D = dq at *
  have HOB := Lib.hid hobn
  clear hobn
  obtain ⟨_, c0, c1, c2⟩ := HAL.out _ HS5.out
  clear hs3 hs4 hs5 hq3 hq4 hq5 hg3 hg4 hg5 hr3 hr4 hvq5 HCM HMU HALG
  go_wp2_with fail
  have HR7 := HVQ5
  have HS7 := HS5
  have hin := rInt_calls sb _ q _ HR7.out
  rw [← HDZ.out] at hin
  have HIN := Lib.hid hin
  clear hin
  refine HIN.out.mono ?_
  rintro ev w8 ⟨rfl, hg8⟩
  have HR8 := Lib.hid (HR7.out.gr hg8)
  have HS8 := Lib.hid (KeepS.gr HS7.out hg8)
  obtain ⟨f0, u0, z0, k0⟩ := HS8.out.2.2.2.2 0 (by decide)
  obtain ⟨f1, u1, z1, k1⟩ := HS8.out.2.2.2.2 1 (by decide)
  have HE := Lib.hid (fun x y => two_set w8 (w.heap.size + 1) x y _ _ z0 z1 k0 k1)
  clear hg8
  go_wp2
  (try simp only [Exit.inBlock, Exit.then])
  refine bodyPost_ret (ret_near _ _ (HE.out _ _).1 _ rfl) rfl ?_
  exact ⟨⟨_, rfl, show RN _ _ _ from (HE.out _ _).2.1 _ _ HR8.out⟩, (HE.out _ _).2.2 w HS8.out.1 (by omega)⟩
set_option maxRecDepth 100000 in
set_option maxHeartbeats 8000000 in
theorem near_1eqz (sb : Bool) (vx vy : Value) (a b : Nat) (w : World) (hx : RN w vx a) (hy : RN w vy b) (k : Nat) (ha : a < Dg.D ^ k) (hb : b < Dg.D ^ k) (hk : k ≤ 400) (hb0 : 0 < b) (hc : a % b + a % b = b) (hq : a / b = 0) :
    Calls Tryz.prog 23 #[.agg #[.bool sb, vx, vy], .int .i64 1] w fun e w' => (∃ v, e = .returned (.agg #[.bool (sb && decide (0 < a / b + 1)), v]) ∧ RN w' v (a / b + 1)) ∧ Gr w w' := by
  obtain ⟨ax, lx, cx, rfl⟩ := rn_sl hx
  obtain ⟨ay, ly, cy, rfl⟩ := rn_sl hy
  have h1 := heap_alloc_new w (.cells #[.bool sb, .slice ax lx cx, .slice ay ly cy] 29)
  have h3 := heap_alloc_new (w.alloc (.cells #[.bool sb, .slice ax lx cx, .slice ay ly cy] 29)) (.cells #[.bool false, .slice none 0 0] 27)
  rw [size_al] at h3
  have g1 : Gr w (w.alloc (.cells #[.bool sb, .slice ax lx cx, .slice ay ly cy] 29)) := (Gr.rf w).alloc (Nat.le_refl _) _
  have g2 : Gr (w.alloc (.cells #[.bool sb, .slice ax lx cx, .slice ay ly cy] 29)) ((w.alloc (.cells #[.bool sb, .slice ax lx cx, .slice ay ly cy] 29)).alloc (.cells #[.bool false, .slice none 0 0] 27)) := (Gr.rf _).alloc (Nat.le_refl _) _
  have hsz : ((w.alloc (.cells #[.bool sb, .slice ax lx cx, .slice ay ly cy] 29)).alloc (.cells #[.bool false, .slice none 0 0] 27)).heap.size = w.heap.size + 2 := by rw [size_al, size_al]
  have h1 := g2.heap h1
  have hS : KeepS w (w.heap.size + 1) 2 [(w.heap.size, 0, .bool sb), (w.heap.size, 1, .slice ax lx cx), (w.heap.size, 2, .slice ay ly cy)] [(.slice ax lx cx, a), (.slice ay ly cy, b)] ((w.alloc (.cells #[.bool sb, .slice ax lx cx, .slice ay ly cy] 29)).alloc (.cells #[.bool false, .slice none 0 0] 27)) := by
    refine ⟨g1.tr g2, fun p hp => ?_, fun p hp => ?_, ⟨by omega, by omega⟩, fun j hj => ?_⟩
    · simp only [List.mem_cons, List.not_mem_nil, or_false] at hp
      rcases hp with rfl | rfl
      · exact hx.gr (g1.tr g2)
      · exact hy.gr (g1.tr g2)
    · simp only [List.mem_cons, List.not_mem_nil, or_false] at hp
      rcases hp with rfl | rfl | rfl
      · exact ⟨heap_cell h1 0, by show w.heap.size ≠ _; omega, by show w.heap.size < _; omega⟩
      · exact ⟨heap_cell h1 1, by show w.heap.size ≠ _; omega, by show w.heap.size < _; omega⟩
      · exact ⟨heap_cell h1 2, by show w.heap.size ≠ _; omega, by show w.heap.size < _; omega⟩
    · rcases j with _ | _ | j
      · exact ⟨heap_frz h3 0, _, heap_cell h3 0, fun n h => by cases h⟩
      · exact ⟨heap_frz h3 1, _, heap_cell h3 1, fun n h => by cases h⟩
      · omega
  have HAL : Hid (∀ w', KeepS w (w.heap.size + 1) 2 [(w.heap.size, 0, .bool sb), (w.heap.size, 1, .slice ax lx cx), (w.heap.size, 2, .slice ay ly cy)] [(.slice ax lx cx, a), (.slice ay ly cy, b)] w' → (KeepS w (w.heap.size + 1) 2 [(w.heap.size, 0, .bool sb), (w.heap.size, 1, .slice ax lx cx), (w.heap.size, 2, .slice ay ly cy)] [(.slice ax lx cx, a), (.slice ay ly cy, b)] w' ∧ w'.cell? ⟨w.heap.size, 0, none⟩ = some (.bool sb) ∧ w'.cell? ⟨w.heap.size, 1, none⟩ = some (.slice ax lx cx) ∧ w'.cell? ⟨w.heap.size, 2, none⟩ = some (.slice ay ly cy))) := Lib.hid (fun w' h => ⟨h, h.cell (w.heap.size, 0, .bool sb) (by simp), h.cell (w.heap.size, 1, .slice ax lx cx) (by simp), h.cell (w.heap.size, 2, .slice ay ly cy) (by simp)⟩)
  have HS := Lib.hid hS
  have hqk : a / b < Dg.D ^ k := b_div ha
  have hrk : a % b < Dg.D ^ k := b_mod ha
  have HDV : Hid (∀ w', KeepS w (w.heap.size + 1) 2 [(w.heap.size, 0, .bool sb), (w.heap.size, 1, .slice ax lx cx), (w.heap.size, 2, .slice ay ly cy)] [(.slice ax lx cx, a), (.slice ay ly cy, b)] w' → Calls Tryz.prog 84 #[.slice ax lx cx, .slice ay ly cy] w' fun e w2 => (∃ q r, e = .returned (.tuple #[q, r]) ∧ RN w2 q (a / b) ∧ RN w2 r (a % b)) ∧ Gr w' w2) := Lib.hid (fun w' h => r_div (h.rn (.slice ax lx cx, a) (by simp)) (h.rn (.slice ay ly cy, b) (by simp)) ha hb (by omega) hb0)
  have HO2 : Hid (∀ w', Calls Tryz.prog 27 #[.int .u64 2] w' fun e w2 => (∃ r, e = .returned r ∧ RN w2 r 2) ∧ Gr w' w2) := Lib.hid (fun w' => r_ofU 2 (by decide) w')
  have HO1 : Hid (∀ w', Calls Tryz.prog 27 #[.int .u64 1] w' fun e w2 => (∃ r, e = .returned r ∧ RN w2 r 1) ∧ Gr w' w2) := Lib.hid (fun w' => r_ofU 1 (by decide) w')
  have HBB := Lib.hid (And.intro hqk hrk)
  have HBD := Lib.hid (And.intro hb hk)
  have HCC := Lib.hid hc
  have HQ0 := Lib.hid hq
  generalize hqe : a / b = q at *
  generalize hre : a % b = r at *
  clear hx hy h1 h3 g1 g2 hsz hS ha hb hb0 hqk hrk hqe hre hc hk hq
  obtain ⟨dz, hdz⟩ : ∃ dz, dz = decide (0 < q + 1) := ⟨_, rfl⟩
  have HDZ := Lib.hid hdz
  rw [← hdz]
  clear hdz
  go_enter Tryz.func23, Tryz.ntmps23
  obtain ⟨_, c0, c1, c2⟩ := HAL.out _ HS.out
  go_wp2_with fail
  generalize (w.alloc (.cells #[.bool sb, .slice ax lx cx, .slice ay ly cy] 29)).alloc (.cells #[.bool false, .slice none 0 0] 27) = wz at *
  refine (HDV.out _ HS.out).mono ?_
  rintro ev w1 ⟨⟨vq, vr, rfl, hvq, hvr⟩, hg1⟩
  obtain ⟨aq, lq, cq, rfl⟩ := rn_sl hvq
  obtain ⟨ar, lr, cr, rfl⟩ := rn_sl hvr
  have HVQ := Lib.hid hvq
  have HVR := Lib.hid hvr
  have HS1 := Lib.hid (KeepS.gr HS.out hg1)
  have HSD := Lib.hid (KeepS.gr HS1.out (Gr.drew (Gr.rf _) 1))
  have HVRD := Lib.hid (HVR.out.gr (Gr.drew (Gr.rf w1) 1))
  have HCM : Hid (∀ w' x, RN w' x (r * 2) → KeepS w (w.heap.size + 1) 2 [(w.heap.size, 0, .bool sb), (w.heap.size, 1, .slice ax lx cx), (w.heap.size, 2, .slice ay ly cy)] [(.slice ax lx cx, a), (.slice ay ly cy, b)] w' → Calls Tryz.prog 37 #[x, .slice ay ly cy] w' fun e w2 => e = .returned (.int .i64 (0)) ∧ Gr w' w2) := Lib.hid (fun w' x h hs => r_cmp (k := k + 1) h (hs.rn (.slice ay ly cy, b) (by simp)) (b_mul HBB.out.2 (show 2 < Dg.D ^ 1 by decide) rfl) (b_up HBD.out.1 (by omega)) (by have := HBD.out.2; omega) (by rw [show r * 2 = b by have := HCC.out; omega]; exact cmpN_eq b))
  have HMU : Hid (∀ w' x, RN w' x 2 → Gr w1.drew w' → Calls Tryz.prog 80 #[.slice ar lr cr, x] w' fun e w2 => (∃ v, e = .returned v ∧ RN w2 v (r * 2)) ∧ Gr w' w2) := Lib.hid (fun w' x h hg => r_mul (k := k + 1) (HVRD.out.gr hg) h (b_up HBB.out.2 (by omega)) (b_up (show 2 < Dg.D ^ 1 by decide) (by omega)) (by have := HBD.out.2; omega))
  clear hvq hvr hg1 c0 c1 c2
  have HALG : Hid (∀ w', KeepS w (w.heap.size + 1) 2 [(w.heap.size, 0, .bool sb), (w.heap.size, 1, .slice ax lx cx), (w.heap.size, 2, .slice ay ly cy)] [(.slice ax lx cx, a), (.slice ay ly cy, b)] w' → Gr w1.drew w' → ((KeepS w (w.heap.size + 1) 2 [(w.heap.size, 0, .bool sb), (w.heap.size, 1, .slice ax lx cx), (w.heap.size, 2, .slice ay ly cy)] [(.slice ax lx cx, a), (.slice ay ly cy, b)] w' ∧ Gr w1.drew w') ∧ w'.cell? ⟨w.heap.size, 0, none⟩ = some (.bool sb) ∧ w'.cell? ⟨w.heap.size, 1, none⟩ = some (.slice ax lx cx) ∧ w'.cell? ⟨w.heap.size, 2, none⟩ = some (.slice ay ly cy))) := Lib.hid (fun w' h hg => ⟨⟨h, hg⟩, (HAL.out w' h).2⟩)
  go_wp2_with fail
  go_region_held3 (fun w' => (KeepS w (w.heap.size + 1) 2 [(w.heap.size, 0, .bool sb), (w.heap.size, 1, .slice ax lx cx), (w.heap.size, 2, .slice ay ly cy)] [(.slice ax lx cx, a), (.slice ay ly cy, b)] w' ∧ Gr w1.drew w') ∧ w'.cell? ⟨w.heap.size, 0, none⟩ = some (.bool sb) ∧ w'.cell? ⟨w.heap.size, 1, none⟩ = some (.slice ax lx cx) ∧ w'.cell? ⟨w.heap.size, 2, none⟩ = some (.slice ay ly cy))
    (first | exact HALG.out _ HSD.out (Gr.rf _) | exact HALG.out _ hs3 hq3 | exact HALG.out _ hs4 hq4 | exact HALG.out _ hs5 hq5 | fail)
    (first
      | (go_at_call 27; go_split_ands; refine (HO2.out _).mono ?_; rintro ev w3 ⟨⟨r3, rfl, hr3⟩, hg3⟩; have hs3 := KeepS.gr (by assumption) hg3; have hq3 : Gr w1.drew w3 := Gr.tr (by assumption) hg3)
      | (go_at_call 80; go_split_ands; refine (HMU.out _ _ hr3 (by assumption)).mono ?_; rintro ev w4 ⟨⟨r4, rfl, hr4⟩, hg4⟩; have hs4 := KeepS.gr (by assumption) hg4; have hq4 : Gr w1.drew w4 := Gr.tr (by assumption) hg4)
      | (go_at_call 37; go_split_ands; refine (HCM.out _ _ hr4 (by assumption)).mono ?_; rintro ev w5 ⟨rfl, hg5⟩; have hs5 := KeepS.gr (by assumption) hg5; have hq5 : Gr w1.drew w5 := Gr.tr (by assumption) hg5))
  have HS5 := Lib.hid hs5
  have hvq5 := HVQ.out.gr ((Gr.drew (Gr.rf w1) 1).tr hq5)
  have HVQ5 := Lib.hid hvq5
  have hlq : lq = 0 := by have h1 := (digs_len0 q).2 HQ0.out; obtain ⟨x, c, h2⟩ := rn_len hvq5; injection h2 with _ h2; omega
  have hb1 : decide (0 < (lq : Int)) = false := decide_eq_false (by omega)
  have hb1n : decide (0 < lq) = false := decide_eq_false (by omega)
  clear hlq
  obtain ⟨_, c0, c1, c2⟩ := HAL.out _ HS5.out
  clear hs3 hs4 hs5 hq3 hq4 hq5 hg3 hg4 hg5 hr3 hr4 hvq5 HCM HMU HALG
  go_wp2_with fail
  refine (HO1.out _).mono ?_
  rintro ev w6 ⟨⟨r6, rfl, hr6⟩, hg6⟩
  have HG6 := Lib.hid hg6
  have HAD := Lib.hid (r_add (k := k + 1) (HVQ5.out.gr hg6) hr6 (b_up HBB.out.1 (by omega)) (b_one (by omega)) (by have := HBD.out.2; omega))
  clear hr6 hg6
  go_wp2_with fail
  refine HAD.out.mono ?_
  rintro ev w7 ⟨⟨r7, rfl, hr7⟩, hg7⟩
  obtain ⟨a7, l7, c7, rfl⟩ := rn_sl hr7
  have HR7 := Lib.hid hr7
  have HS7 := Lib.hid (KeepS.gr HS5.out (HG6.out.tr hg7))
  obtain ⟨_, c0, c1, c2⟩ := HAL.out _ HS7.out
  clear hr7 hg7
  have hin := rInt_calls sb (.slice a7 l7 c7) (q + 1) w7 HR7.out
  rw [← HDZ.out] at hin
  have HIN := Lib.hid hin
  clear hin
  go_wp2_with fail
  refine HIN.out.mono ?_
  rintro ev w8 ⟨rfl, hg8⟩
  have HR8 := Lib.hid (HR7.out.gr hg8)
  have HS8 := Lib.hid (KeepS.gr HS7.out hg8)
  obtain ⟨f0, u0, z0, k0⟩ := HS8.out.2.2.2.2 0 (by decide)
  obtain ⟨f1, u1, z1, k1⟩ := HS8.out.2.2.2.2 1 (by decide)
  have HE := Lib.hid (fun x y => two_set w8 (w.heap.size + 1) x y _ _ z0 z1 k0 k1)
  clear hg8
  go_wp2
  (try simp only [Exit.inBlock, Exit.then])
  refine bodyPost_ret (ret_near _ _ (HE.out _ _).1 _ rfl) rfl ?_
  exact ⟨⟨_, rfl, show RN _ _ _ from (HE.out _ _).2.1 _ _ HR8.out⟩, (HE.out _ _).2.2 w HS8.out.1 (by omega)⟩
set_option maxRecDepth 100000 in
set_option maxHeartbeats 8000000 in
theorem near_1eqq (sb : Bool) (vx vy : Value) (a b : Nat) (w : World) (hx : RN w vx a) (hy : RN w vy b) (k : Nat) (ha : a < Dg.D ^ k) (hb : b < Dg.D ^ k) (hk : k ≤ 400) (hb0 : 0 < b) (hc : a % b + a % b = b) (hq : a / b ≠ 0) :
    Calls Tryz.prog 23 #[.agg #[.bool sb, vx, vy], .int .i64 1] w fun e w' => (∃ v, e = .returned (.agg #[.bool (sb && decide (0 < a / b + 1)), v]) ∧ RN w' v (a / b + 1)) ∧ Gr w w' := by
  obtain ⟨ax, lx, cx, rfl⟩ := rn_sl hx
  obtain ⟨ay, ly, cy, rfl⟩ := rn_sl hy
  have h1 := heap_alloc_new w (.cells #[.bool sb, .slice ax lx cx, .slice ay ly cy] 29)
  have h3 := heap_alloc_new (w.alloc (.cells #[.bool sb, .slice ax lx cx, .slice ay ly cy] 29)) (.cells #[.bool false, .slice none 0 0] 27)
  rw [size_al] at h3
  have g1 : Gr w (w.alloc (.cells #[.bool sb, .slice ax lx cx, .slice ay ly cy] 29)) := (Gr.rf w).alloc (Nat.le_refl _) _
  have g2 : Gr (w.alloc (.cells #[.bool sb, .slice ax lx cx, .slice ay ly cy] 29)) ((w.alloc (.cells #[.bool sb, .slice ax lx cx, .slice ay ly cy] 29)).alloc (.cells #[.bool false, .slice none 0 0] 27)) := (Gr.rf _).alloc (Nat.le_refl _) _
  have hsz : ((w.alloc (.cells #[.bool sb, .slice ax lx cx, .slice ay ly cy] 29)).alloc (.cells #[.bool false, .slice none 0 0] 27)).heap.size = w.heap.size + 2 := by rw [size_al, size_al]
  have h1 := g2.heap h1
  have hS : KeepS w (w.heap.size + 1) 2 [(w.heap.size, 0, .bool sb), (w.heap.size, 1, .slice ax lx cx), (w.heap.size, 2, .slice ay ly cy)] [(.slice ax lx cx, a), (.slice ay ly cy, b)] ((w.alloc (.cells #[.bool sb, .slice ax lx cx, .slice ay ly cy] 29)).alloc (.cells #[.bool false, .slice none 0 0] 27)) := by
    refine ⟨g1.tr g2, fun p hp => ?_, fun p hp => ?_, ⟨by omega, by omega⟩, fun j hj => ?_⟩
    · simp only [List.mem_cons, List.not_mem_nil, or_false] at hp
      rcases hp with rfl | rfl
      · exact hx.gr (g1.tr g2)
      · exact hy.gr (g1.tr g2)
    · simp only [List.mem_cons, List.not_mem_nil, or_false] at hp
      rcases hp with rfl | rfl | rfl
      · exact ⟨heap_cell h1 0, by show w.heap.size ≠ _; omega, by show w.heap.size < _; omega⟩
      · exact ⟨heap_cell h1 1, by show w.heap.size ≠ _; omega, by show w.heap.size < _; omega⟩
      · exact ⟨heap_cell h1 2, by show w.heap.size ≠ _; omega, by show w.heap.size < _; omega⟩
    · rcases j with _ | _ | j
      · exact ⟨heap_frz h3 0, _, heap_cell h3 0, fun n h => by cases h⟩
      · exact ⟨heap_frz h3 1, _, heap_cell h3 1, fun n h => by cases h⟩
      · omega
  have HAL : Hid (∀ w', KeepS w (w.heap.size + 1) 2 [(w.heap.size, 0, .bool sb), (w.heap.size, 1, .slice ax lx cx), (w.heap.size, 2, .slice ay ly cy)] [(.slice ax lx cx, a), (.slice ay ly cy, b)] w' → (KeepS w (w.heap.size + 1) 2 [(w.heap.size, 0, .bool sb), (w.heap.size, 1, .slice ax lx cx), (w.heap.size, 2, .slice ay ly cy)] [(.slice ax lx cx, a), (.slice ay ly cy, b)] w' ∧ w'.cell? ⟨w.heap.size, 0, none⟩ = some (.bool sb) ∧ w'.cell? ⟨w.heap.size, 1, none⟩ = some (.slice ax lx cx) ∧ w'.cell? ⟨w.heap.size, 2, none⟩ = some (.slice ay ly cy))) := Lib.hid (fun w' h => ⟨h, h.cell (w.heap.size, 0, .bool sb) (by simp), h.cell (w.heap.size, 1, .slice ax lx cx) (by simp), h.cell (w.heap.size, 2, .slice ay ly cy) (by simp)⟩)
  have HS := Lib.hid hS
  have hqk : a / b < Dg.D ^ k := b_div ha
  have hrk : a % b < Dg.D ^ k := b_mod ha
  have HDV : Hid (∀ w', KeepS w (w.heap.size + 1) 2 [(w.heap.size, 0, .bool sb), (w.heap.size, 1, .slice ax lx cx), (w.heap.size, 2, .slice ay ly cy)] [(.slice ax lx cx, a), (.slice ay ly cy, b)] w' → Calls Tryz.prog 84 #[.slice ax lx cx, .slice ay ly cy] w' fun e w2 => (∃ q r, e = .returned (.tuple #[q, r]) ∧ RN w2 q (a / b) ∧ RN w2 r (a % b)) ∧ Gr w' w2) := Lib.hid (fun w' h => r_div (h.rn (.slice ax lx cx, a) (by simp)) (h.rn (.slice ay ly cy, b) (by simp)) ha hb (by omega) hb0)
  have HO2 : Hid (∀ w', Calls Tryz.prog 27 #[.int .u64 2] w' fun e w2 => (∃ r, e = .returned r ∧ RN w2 r 2) ∧ Gr w' w2) := Lib.hid (fun w' => r_ofU 2 (by decide) w')
  have HO1 : Hid (∀ w', Calls Tryz.prog 27 #[.int .u64 1] w' fun e w2 => (∃ r, e = .returned r ∧ RN w2 r 1) ∧ Gr w' w2) := Lib.hid (fun w' => r_ofU 1 (by decide) w')
  have HBB := Lib.hid (And.intro hqk hrk)
  have HBD := Lib.hid (And.intro hb hk)
  have HCC := Lib.hid hc
  have HQ0 := Lib.hid hq
  generalize hqe : a / b = q at *
  generalize hre : a % b = r at *
  clear hx hy h1 h3 g1 g2 hsz hS ha hb hb0 hqk hrk hqe hre hc hk hq
  obtain ⟨dz, hdz⟩ : ∃ dz, dz = decide (0 < q + 1) := ⟨_, rfl⟩
  have HDZ := Lib.hid hdz
  rw [← hdz]
  clear hdz
  go_enter Tryz.func23, Tryz.ntmps23
  obtain ⟨_, c0, c1, c2⟩ := HAL.out _ HS.out
  go_wp2_with fail
  generalize (w.alloc (.cells #[.bool sb, .slice ax lx cx, .slice ay ly cy] 29)).alloc (.cells #[.bool false, .slice none 0 0] 27) = wz at *
  refine (HDV.out _ HS.out).mono ?_
  rintro ev w1 ⟨⟨vq, vr, rfl, hvq, hvr⟩, hg1⟩
  obtain ⟨aq, lq, cq, rfl⟩ := rn_sl hvq
  obtain ⟨ar, lr, cr, rfl⟩ := rn_sl hvr
  have HVQ := Lib.hid hvq
  have HVR := Lib.hid hvr
  have HS1 := Lib.hid (KeepS.gr HS.out hg1)
  have HSD := Lib.hid (KeepS.gr HS1.out (Gr.drew (Gr.rf _) 1))
  have HVRD := Lib.hid (HVR.out.gr (Gr.drew (Gr.rf w1) 1))
  have HCM : Hid (∀ w' x, RN w' x (r * 2) → KeepS w (w.heap.size + 1) 2 [(w.heap.size, 0, .bool sb), (w.heap.size, 1, .slice ax lx cx), (w.heap.size, 2, .slice ay ly cy)] [(.slice ax lx cx, a), (.slice ay ly cy, b)] w' → Calls Tryz.prog 37 #[x, .slice ay ly cy] w' fun e w2 => e = .returned (.int .i64 (0)) ∧ Gr w' w2) := Lib.hid (fun w' x h hs => r_cmp (k := k + 1) h (hs.rn (.slice ay ly cy, b) (by simp)) (b_mul HBB.out.2 (show 2 < Dg.D ^ 1 by decide) rfl) (b_up HBD.out.1 (by omega)) (by have := HBD.out.2; omega) (by rw [show r * 2 = b by have := HCC.out; omega]; exact cmpN_eq b))
  have HMU : Hid (∀ w' x, RN w' x 2 → Gr w1.drew w' → Calls Tryz.prog 80 #[.slice ar lr cr, x] w' fun e w2 => (∃ v, e = .returned v ∧ RN w2 v (r * 2)) ∧ Gr w' w2) := Lib.hid (fun w' x h hg => r_mul (k := k + 1) (HVRD.out.gr hg) h (b_up HBB.out.2 (by omega)) (b_up (show 2 < Dg.D ^ 1 by decide) (by omega)) (by have := HBD.out.2; omega))
  clear hvq hvr hg1 c0 c1 c2
  have HALG : Hid (∀ w', KeepS w (w.heap.size + 1) 2 [(w.heap.size, 0, .bool sb), (w.heap.size, 1, .slice ax lx cx), (w.heap.size, 2, .slice ay ly cy)] [(.slice ax lx cx, a), (.slice ay ly cy, b)] w' → Gr w1.drew w' → ((KeepS w (w.heap.size + 1) 2 [(w.heap.size, 0, .bool sb), (w.heap.size, 1, .slice ax lx cx), (w.heap.size, 2, .slice ay ly cy)] [(.slice ax lx cx, a), (.slice ay ly cy, b)] w' ∧ Gr w1.drew w') ∧ w'.cell? ⟨w.heap.size, 0, none⟩ = some (.bool sb) ∧ w'.cell? ⟨w.heap.size, 1, none⟩ = some (.slice ax lx cx) ∧ w'.cell? ⟨w.heap.size, 2, none⟩ = some (.slice ay ly cy))) := Lib.hid (fun w' h hg => ⟨⟨h, hg⟩, (HAL.out w' h).2⟩)
  go_wp2_with fail
  go_region_held3 (fun w' => (KeepS w (w.heap.size + 1) 2 [(w.heap.size, 0, .bool sb), (w.heap.size, 1, .slice ax lx cx), (w.heap.size, 2, .slice ay ly cy)] [(.slice ax lx cx, a), (.slice ay ly cy, b)] w' ∧ Gr w1.drew w') ∧ w'.cell? ⟨w.heap.size, 0, none⟩ = some (.bool sb) ∧ w'.cell? ⟨w.heap.size, 1, none⟩ = some (.slice ax lx cx) ∧ w'.cell? ⟨w.heap.size, 2, none⟩ = some (.slice ay ly cy))
    (first | exact HALG.out _ HSD.out (Gr.rf _) | exact HALG.out _ hs3 hq3 | exact HALG.out _ hs4 hq4 | exact HALG.out _ hs5 hq5 | fail)
    (first
      | (go_at_call 27; go_split_ands; refine (HO2.out _).mono ?_; rintro ev w3 ⟨⟨r3, rfl, hr3⟩, hg3⟩; have hs3 := KeepS.gr (by assumption) hg3; have hq3 : Gr w1.drew w3 := Gr.tr (by assumption) hg3)
      | (go_at_call 80; go_split_ands; refine (HMU.out _ _ hr3 (by assumption)).mono ?_; rintro ev w4 ⟨⟨r4, rfl, hr4⟩, hg4⟩; have hs4 := KeepS.gr (by assumption) hg4; have hq4 : Gr w1.drew w4 := Gr.tr (by assumption) hg4)
      | (go_at_call 37; go_split_ands; refine (HCM.out _ _ hr4 (by assumption)).mono ?_; rintro ev w5 ⟨rfl, hg5⟩; have hs5 := KeepS.gr (by assumption) hg5; have hq5 : Gr w1.drew w5 := Gr.tr (by assumption) hg5))
  have HS5 := Lib.hid hs5
  have hvq5 := HVQ.out.gr ((Gr.drew (Gr.rf w1) 1).tr hq5)
  have HVQ5 := Lib.hid hvq5
  obtain ⟨hlq, hlc, gq, oq, rfl, hgl, hcl⟩ := rn_first hvq5 (Nat.pos_of_ne_zero HQ0.out)
  have hb1 : decide (0 < (lq : Int)) = true := decide_eq_true (by omega)
  have hb1n : decide (0 < lq) = true := decide_eq_true hlq
  have hlqi : (0 : Int) < (lq : Int) := by omega
  obtain ⟨ob, hob, hobn⟩ : ∃ ob : Bool, (((q % Dg.D : Nat) : Int) % 2 == 1) = ob ∧ (q % 2 = 1 ↔ ob = true) := ⟨_, rfl, by rw [← dig_even q]; simp; omega⟩
  generalize q % Dg.D = dq at *
  have HOB := Lib.hid hobn
  clear hobn
  obtain ⟨_, c0, c1, c2⟩ := HAL.out _ HS5.out
  clear hs3 hs4 hs5 hq3 hq4 hq5 hg3 hg4 hg5 hr3 hr4 hvq5 HCM HMU HALG
  go_wp2_with fail
  refine (HO1.out _).mono ?_
  rintro ev w6 ⟨⟨r6, rfl, hr6⟩, hg6⟩
  have HG6 := Lib.hid hg6
  have HAD := Lib.hid (r_add (k := k + 1) (HVQ5.out.gr hg6) hr6 (b_up HBB.out.1 (by omega)) (b_one (by omega)) (by have := HBD.out.2; omega))
  clear hr6 hg6
  go_wp2_with fail
  refine HAD.out.mono ?_
  rintro ev w7 ⟨⟨r7, rfl, hr7⟩, hg7⟩
  obtain ⟨a7, l7, c7, rfl⟩ := rn_sl hr7
  have HR7 := Lib.hid hr7
  have HS7 := Lib.hid (KeepS.gr HS5.out (HG6.out.tr hg7))
  obtain ⟨_, c0, c1, c2⟩ := HAL.out _ HS7.out
  clear hr7 hg7
  have hin := rInt_calls sb (.slice a7 l7 c7) (q + 1) w7 HR7.out
  rw [← HDZ.out] at hin
  have HIN := Lib.hid hin
  clear hin
  go_wp2_with fail
  refine HIN.out.mono ?_
  rintro ev w8 ⟨rfl, hg8⟩
  have HR8 := Lib.hid (HR7.out.gr hg8)
  have HS8 := Lib.hid (KeepS.gr HS7.out hg8)
  obtain ⟨f0, u0, z0, k0⟩ := HS8.out.2.2.2.2 0 (by decide)
  obtain ⟨f1, u1, z1, k1⟩ := HS8.out.2.2.2.2 1 (by decide)
  have HE := Lib.hid (fun x y => two_set w8 (w.heap.size + 1) x y _ _ z0 z1 k0 k1)
  clear hg8
  go_wp2
  (try simp only [Exit.inBlock, Exit.then])
  refine bodyPost_ret (ret_near _ _ (HE.out _ _).1 _ rfl) rfl ?_
  exact ⟨⟨_, rfl, show RN _ _ _ from (HE.out _ _).2.1 _ _ HR8.out⟩, (HE.out _ _).2.2 w HS8.out.1 (by omega)⟩
set_option maxRecDepth 100000 in
set_option maxHeartbeats 8000000 in
theorem near_1gtz (sb : Bool) (vx vy : Value) (a b : Nat) (w : World) (hx : RN w vx a) (hy : RN w vy b) (k : Nat) (ha : a < Dg.D ^ k) (hb : b < Dg.D ^ k) (hk : k ≤ 400) (hb0 : 0 < b) (hc : a % b + a % b > b) (hq : a / b = 0) :
    Calls Tryz.prog 23 #[.agg #[.bool sb, vx, vy], .int .i64 1] w fun e w' => (∃ v, e = .returned (.agg #[.bool (sb && decide (0 < a / b + 1)), v]) ∧ RN w' v (a / b + 1)) ∧ Gr w w' := by
  obtain ⟨ax, lx, cx, rfl⟩ := rn_sl hx
  obtain ⟨ay, ly, cy, rfl⟩ := rn_sl hy
  have h1 := heap_alloc_new w (.cells #[.bool sb, .slice ax lx cx, .slice ay ly cy] 29)
  have h3 := heap_alloc_new (w.alloc (.cells #[.bool sb, .slice ax lx cx, .slice ay ly cy] 29)) (.cells #[.bool false, .slice none 0 0] 27)
  rw [size_al] at h3
  have g1 : Gr w (w.alloc (.cells #[.bool sb, .slice ax lx cx, .slice ay ly cy] 29)) := (Gr.rf w).alloc (Nat.le_refl _) _
  have g2 : Gr (w.alloc (.cells #[.bool sb, .slice ax lx cx, .slice ay ly cy] 29)) ((w.alloc (.cells #[.bool sb, .slice ax lx cx, .slice ay ly cy] 29)).alloc (.cells #[.bool false, .slice none 0 0] 27)) := (Gr.rf _).alloc (Nat.le_refl _) _
  have hsz : ((w.alloc (.cells #[.bool sb, .slice ax lx cx, .slice ay ly cy] 29)).alloc (.cells #[.bool false, .slice none 0 0] 27)).heap.size = w.heap.size + 2 := by rw [size_al, size_al]
  have h1 := g2.heap h1
  have hS : KeepS w (w.heap.size + 1) 2 [(w.heap.size, 0, .bool sb), (w.heap.size, 1, .slice ax lx cx), (w.heap.size, 2, .slice ay ly cy)] [(.slice ax lx cx, a), (.slice ay ly cy, b)] ((w.alloc (.cells #[.bool sb, .slice ax lx cx, .slice ay ly cy] 29)).alloc (.cells #[.bool false, .slice none 0 0] 27)) := by
    refine ⟨g1.tr g2, fun p hp => ?_, fun p hp => ?_, ⟨by omega, by omega⟩, fun j hj => ?_⟩
    · simp only [List.mem_cons, List.not_mem_nil, or_false] at hp
      rcases hp with rfl | rfl
      · exact hx.gr (g1.tr g2)
      · exact hy.gr (g1.tr g2)
    · simp only [List.mem_cons, List.not_mem_nil, or_false] at hp
      rcases hp with rfl | rfl | rfl
      · exact ⟨heap_cell h1 0, by show w.heap.size ≠ _; omega, by show w.heap.size < _; omega⟩
      · exact ⟨heap_cell h1 1, by show w.heap.size ≠ _; omega, by show w.heap.size < _; omega⟩
      · exact ⟨heap_cell h1 2, by show w.heap.size ≠ _; omega, by show w.heap.size < _; omega⟩
    · rcases j with _ | _ | j
      · exact ⟨heap_frz h3 0, _, heap_cell h3 0, fun n h => by cases h⟩
      · exact ⟨heap_frz h3 1, _, heap_cell h3 1, fun n h => by cases h⟩
      · omega
  have HAL : Hid (∀ w', KeepS w (w.heap.size + 1) 2 [(w.heap.size, 0, .bool sb), (w.heap.size, 1, .slice ax lx cx), (w.heap.size, 2, .slice ay ly cy)] [(.slice ax lx cx, a), (.slice ay ly cy, b)] w' → (KeepS w (w.heap.size + 1) 2 [(w.heap.size, 0, .bool sb), (w.heap.size, 1, .slice ax lx cx), (w.heap.size, 2, .slice ay ly cy)] [(.slice ax lx cx, a), (.slice ay ly cy, b)] w' ∧ w'.cell? ⟨w.heap.size, 0, none⟩ = some (.bool sb) ∧ w'.cell? ⟨w.heap.size, 1, none⟩ = some (.slice ax lx cx) ∧ w'.cell? ⟨w.heap.size, 2, none⟩ = some (.slice ay ly cy))) := Lib.hid (fun w' h => ⟨h, h.cell (w.heap.size, 0, .bool sb) (by simp), h.cell (w.heap.size, 1, .slice ax lx cx) (by simp), h.cell (w.heap.size, 2, .slice ay ly cy) (by simp)⟩)
  have HS := Lib.hid hS
  have hqk : a / b < Dg.D ^ k := b_div ha
  have hrk : a % b < Dg.D ^ k := b_mod ha
  have HDV : Hid (∀ w', KeepS w (w.heap.size + 1) 2 [(w.heap.size, 0, .bool sb), (w.heap.size, 1, .slice ax lx cx), (w.heap.size, 2, .slice ay ly cy)] [(.slice ax lx cx, a), (.slice ay ly cy, b)] w' → Calls Tryz.prog 84 #[.slice ax lx cx, .slice ay ly cy] w' fun e w2 => (∃ q r, e = .returned (.tuple #[q, r]) ∧ RN w2 q (a / b) ∧ RN w2 r (a % b)) ∧ Gr w' w2) := Lib.hid (fun w' h => r_div (h.rn (.slice ax lx cx, a) (by simp)) (h.rn (.slice ay ly cy, b) (by simp)) ha hb (by omega) hb0)
  have HO2 : Hid (∀ w', Calls Tryz.prog 27 #[.int .u64 2] w' fun e w2 => (∃ r, e = .returned r ∧ RN w2 r 2) ∧ Gr w' w2) := Lib.hid (fun w' => r_ofU 2 (by decide) w')
  have HO1 : Hid (∀ w', Calls Tryz.prog 27 #[.int .u64 1] w' fun e w2 => (∃ r, e = .returned r ∧ RN w2 r 1) ∧ Gr w' w2) := Lib.hid (fun w' => r_ofU 1 (by decide) w')
  have HBB := Lib.hid (And.intro hqk hrk)
  have HBD := Lib.hid (And.intro hb hk)
  have HCC := Lib.hid hc
  have HQ0 := Lib.hid hq
  generalize hqe : a / b = q at *
  generalize hre : a % b = r at *
  clear hx hy h1 h3 g1 g2 hsz hS ha hb hb0 hqk hrk hqe hre hc hk hq
  obtain ⟨dz, hdz⟩ : ∃ dz, dz = decide (0 < q + 1) := ⟨_, rfl⟩
  have HDZ := Lib.hid hdz
  rw [← hdz]
  clear hdz
  go_enter Tryz.func23, Tryz.ntmps23
  obtain ⟨_, c0, c1, c2⟩ := HAL.out _ HS.out
  go_wp2_with fail
  generalize (w.alloc (.cells #[.bool sb, .slice ax lx cx, .slice ay ly cy] 29)).alloc (.cells #[.bool false, .slice none 0 0] 27) = wz at *
  refine (HDV.out _ HS.out).mono ?_
  rintro ev w1 ⟨⟨vq, vr, rfl, hvq, hvr⟩, hg1⟩
  obtain ⟨aq, lq, cq, rfl⟩ := rn_sl hvq
  obtain ⟨ar, lr, cr, rfl⟩ := rn_sl hvr
  have HVQ := Lib.hid hvq
  have HVR := Lib.hid hvr
  have HS1 := Lib.hid (KeepS.gr HS.out hg1)
  have HSD := Lib.hid (KeepS.gr HS1.out (Gr.drew (Gr.rf _) 1))
  have HVRD := Lib.hid (HVR.out.gr (Gr.drew (Gr.rf w1) 1))
  have HCM : Hid (∀ w' x, RN w' x (r * 2) → KeepS w (w.heap.size + 1) 2 [(w.heap.size, 0, .bool sb), (w.heap.size, 1, .slice ax lx cx), (w.heap.size, 2, .slice ay ly cy)] [(.slice ax lx cx, a), (.slice ay ly cy, b)] w' → Calls Tryz.prog 37 #[x, .slice ay ly cy] w' fun e w2 => e = .returned (.int .i64 (1)) ∧ Gr w' w2) := Lib.hid (fun w' x h hs => r_cmp (k := k + 1) h (hs.rn (.slice ay ly cy, b) (by simp)) (b_mul HBB.out.2 (show 2 < Dg.D ^ 1 by decide) rfl) (b_up HBD.out.1 (by omega)) (by have := HBD.out.2; omega) (cmpN_gt (by have := HCC.out; omega)))
  have HMU : Hid (∀ w' x, RN w' x 2 → Gr w1.drew w' → Calls Tryz.prog 80 #[.slice ar lr cr, x] w' fun e w2 => (∃ v, e = .returned v ∧ RN w2 v (r * 2)) ∧ Gr w' w2) := Lib.hid (fun w' x h hg => r_mul (k := k + 1) (HVRD.out.gr hg) h (b_up HBB.out.2 (by omega)) (b_up (show 2 < Dg.D ^ 1 by decide) (by omega)) (by have := HBD.out.2; omega))
  clear hvq hvr hg1 c0 c1 c2
  have HALG : Hid (∀ w', KeepS w (w.heap.size + 1) 2 [(w.heap.size, 0, .bool sb), (w.heap.size, 1, .slice ax lx cx), (w.heap.size, 2, .slice ay ly cy)] [(.slice ax lx cx, a), (.slice ay ly cy, b)] w' → Gr w1.drew w' → ((KeepS w (w.heap.size + 1) 2 [(w.heap.size, 0, .bool sb), (w.heap.size, 1, .slice ax lx cx), (w.heap.size, 2, .slice ay ly cy)] [(.slice ax lx cx, a), (.slice ay ly cy, b)] w' ∧ Gr w1.drew w') ∧ w'.cell? ⟨w.heap.size, 0, none⟩ = some (.bool sb) ∧ w'.cell? ⟨w.heap.size, 1, none⟩ = some (.slice ax lx cx) ∧ w'.cell? ⟨w.heap.size, 2, none⟩ = some (.slice ay ly cy))) := Lib.hid (fun w' h hg => ⟨⟨h, hg⟩, (HAL.out w' h).2⟩)
  go_wp2_with fail
  go_region_held3 (fun w' => (KeepS w (w.heap.size + 1) 2 [(w.heap.size, 0, .bool sb), (w.heap.size, 1, .slice ax lx cx), (w.heap.size, 2, .slice ay ly cy)] [(.slice ax lx cx, a), (.slice ay ly cy, b)] w' ∧ Gr w1.drew w') ∧ w'.cell? ⟨w.heap.size, 0, none⟩ = some (.bool sb) ∧ w'.cell? ⟨w.heap.size, 1, none⟩ = some (.slice ax lx cx) ∧ w'.cell? ⟨w.heap.size, 2, none⟩ = some (.slice ay ly cy))
    (first | exact HALG.out _ HSD.out (Gr.rf _) | exact HALG.out _ hs3 hq3 | exact HALG.out _ hs4 hq4 | exact HALG.out _ hs5 hq5 | fail)
    (first
      | (go_at_call 27; go_split_ands; refine (HO2.out _).mono ?_; rintro ev w3 ⟨⟨r3, rfl, hr3⟩, hg3⟩; have hs3 := KeepS.gr (by assumption) hg3; have hq3 : Gr w1.drew w3 := Gr.tr (by assumption) hg3)
      | (go_at_call 80; go_split_ands; refine (HMU.out _ _ hr3 (by assumption)).mono ?_; rintro ev w4 ⟨⟨r4, rfl, hr4⟩, hg4⟩; have hs4 := KeepS.gr (by assumption) hg4; have hq4 : Gr w1.drew w4 := Gr.tr (by assumption) hg4)
      | (go_at_call 37; go_split_ands; refine (HCM.out _ _ hr4 (by assumption)).mono ?_; rintro ev w5 ⟨rfl, hg5⟩; have hs5 := KeepS.gr (by assumption) hg5; have hq5 : Gr w1.drew w5 := Gr.tr (by assumption) hg5))
  have HS5 := Lib.hid hs5
  have hvq5 := HVQ.out.gr ((Gr.drew (Gr.rf w1) 1).tr hq5)
  have HVQ5 := Lib.hid hvq5
  have hlq : lq = 0 := by have h1 := (digs_len0 q).2 HQ0.out; obtain ⟨x, c, h2⟩ := rn_len hvq5; injection h2 with _ h2; omega
  have hb1 : decide (0 < (lq : Int)) = false := decide_eq_false (by omega)
  have hb1n : decide (0 < lq) = false := decide_eq_false (by omega)
  clear hlq
  obtain ⟨_, c0, c1, c2⟩ := HAL.out _ HS5.out
  clear hs3 hs4 hs5 hq3 hq4 hq5 hg3 hg4 hg5 hr3 hr4 hvq5 HCM HMU HALG
  go_wp2_with fail
  refine (HO1.out _).mono ?_
  rintro ev w6 ⟨⟨r6, rfl, hr6⟩, hg6⟩
  have HG6 := Lib.hid hg6
  have HAD := Lib.hid (r_add (k := k + 1) (HVQ5.out.gr hg6) hr6 (b_up HBB.out.1 (by omega)) (b_one (by omega)) (by have := HBD.out.2; omega))
  clear hr6 hg6
  go_wp2_with fail
  refine HAD.out.mono ?_
  rintro ev w7 ⟨⟨r7, rfl, hr7⟩, hg7⟩
  obtain ⟨a7, l7, c7, rfl⟩ := rn_sl hr7
  have HR7 := Lib.hid hr7
  have HS7 := Lib.hid (KeepS.gr HS5.out (HG6.out.tr hg7))
  obtain ⟨_, c0, c1, c2⟩ := HAL.out _ HS7.out
  clear hr7 hg7
  have hin := rInt_calls sb (.slice a7 l7 c7) (q + 1) w7 HR7.out
  rw [← HDZ.out] at hin
  have HIN := Lib.hid hin
  clear hin
  go_wp2_with fail
  refine HIN.out.mono ?_
  rintro ev w8 ⟨rfl, hg8⟩
  have HR8 := Lib.hid (HR7.out.gr hg8)
  have HS8 := Lib.hid (KeepS.gr HS7.out hg8)
  obtain ⟨f0, u0, z0, k0⟩ := HS8.out.2.2.2.2 0 (by decide)
  obtain ⟨f1, u1, z1, k1⟩ := HS8.out.2.2.2.2 1 (by decide)
  have HE := Lib.hid (fun x y => two_set w8 (w.heap.size + 1) x y _ _ z0 z1 k0 k1)
  clear hg8
  go_wp2
  (try simp only [Exit.inBlock, Exit.then])
  refine bodyPost_ret (ret_near _ _ (HE.out _ _).1 _ rfl) rfl ?_
  exact ⟨⟨_, rfl, show RN _ _ _ from (HE.out _ _).2.1 _ _ HR8.out⟩, (HE.out _ _).2.2 w HS8.out.1 (by omega)⟩
set_option maxRecDepth 100000 in
set_option maxHeartbeats 8000000 in
theorem near_1gtq (sb : Bool) (vx vy : Value) (a b : Nat) (w : World) (hx : RN w vx a) (hy : RN w vy b) (k : Nat) (ha : a < Dg.D ^ k) (hb : b < Dg.D ^ k) (hk : k ≤ 400) (hb0 : 0 < b) (hc : a % b + a % b > b) (hq : a / b ≠ 0) :
    Calls Tryz.prog 23 #[.agg #[.bool sb, vx, vy], .int .i64 1] w fun e w' => (∃ v, e = .returned (.agg #[.bool (sb && decide (0 < a / b + 1)), v]) ∧ RN w' v (a / b + 1)) ∧ Gr w w' := by
  obtain ⟨ax, lx, cx, rfl⟩ := rn_sl hx
  obtain ⟨ay, ly, cy, rfl⟩ := rn_sl hy
  have h1 := heap_alloc_new w (.cells #[.bool sb, .slice ax lx cx, .slice ay ly cy] 29)
  have h3 := heap_alloc_new (w.alloc (.cells #[.bool sb, .slice ax lx cx, .slice ay ly cy] 29)) (.cells #[.bool false, .slice none 0 0] 27)
  rw [size_al] at h3
  have g1 : Gr w (w.alloc (.cells #[.bool sb, .slice ax lx cx, .slice ay ly cy] 29)) := (Gr.rf w).alloc (Nat.le_refl _) _
  have g2 : Gr (w.alloc (.cells #[.bool sb, .slice ax lx cx, .slice ay ly cy] 29)) ((w.alloc (.cells #[.bool sb, .slice ax lx cx, .slice ay ly cy] 29)).alloc (.cells #[.bool false, .slice none 0 0] 27)) := (Gr.rf _).alloc (Nat.le_refl _) _
  have hsz : ((w.alloc (.cells #[.bool sb, .slice ax lx cx, .slice ay ly cy] 29)).alloc (.cells #[.bool false, .slice none 0 0] 27)).heap.size = w.heap.size + 2 := by rw [size_al, size_al]
  have h1 := g2.heap h1
  have hS : KeepS w (w.heap.size + 1) 2 [(w.heap.size, 0, .bool sb), (w.heap.size, 1, .slice ax lx cx), (w.heap.size, 2, .slice ay ly cy)] [(.slice ax lx cx, a), (.slice ay ly cy, b)] ((w.alloc (.cells #[.bool sb, .slice ax lx cx, .slice ay ly cy] 29)).alloc (.cells #[.bool false, .slice none 0 0] 27)) := by
    refine ⟨g1.tr g2, fun p hp => ?_, fun p hp => ?_, ⟨by omega, by omega⟩, fun j hj => ?_⟩
    · simp only [List.mem_cons, List.not_mem_nil, or_false] at hp
      rcases hp with rfl | rfl
      · exact hx.gr (g1.tr g2)
      · exact hy.gr (g1.tr g2)
    · simp only [List.mem_cons, List.not_mem_nil, or_false] at hp
      rcases hp with rfl | rfl | rfl
      · exact ⟨heap_cell h1 0, by show w.heap.size ≠ _; omega, by show w.heap.size < _; omega⟩
      · exact ⟨heap_cell h1 1, by show w.heap.size ≠ _; omega, by show w.heap.size < _; omega⟩
      · exact ⟨heap_cell h1 2, by show w.heap.size ≠ _; omega, by show w.heap.size < _; omega⟩
    · rcases j with _ | _ | j
      · exact ⟨heap_frz h3 0, _, heap_cell h3 0, fun n h => by cases h⟩
      · exact ⟨heap_frz h3 1, _, heap_cell h3 1, fun n h => by cases h⟩
      · omega
  have HAL : Hid (∀ w', KeepS w (w.heap.size + 1) 2 [(w.heap.size, 0, .bool sb), (w.heap.size, 1, .slice ax lx cx), (w.heap.size, 2, .slice ay ly cy)] [(.slice ax lx cx, a), (.slice ay ly cy, b)] w' → (KeepS w (w.heap.size + 1) 2 [(w.heap.size, 0, .bool sb), (w.heap.size, 1, .slice ax lx cx), (w.heap.size, 2, .slice ay ly cy)] [(.slice ax lx cx, a), (.slice ay ly cy, b)] w' ∧ w'.cell? ⟨w.heap.size, 0, none⟩ = some (.bool sb) ∧ w'.cell? ⟨w.heap.size, 1, none⟩ = some (.slice ax lx cx) ∧ w'.cell? ⟨w.heap.size, 2, none⟩ = some (.slice ay ly cy))) := Lib.hid (fun w' h => ⟨h, h.cell (w.heap.size, 0, .bool sb) (by simp), h.cell (w.heap.size, 1, .slice ax lx cx) (by simp), h.cell (w.heap.size, 2, .slice ay ly cy) (by simp)⟩)
  have HS := Lib.hid hS
  have hqk : a / b < Dg.D ^ k := b_div ha
  have hrk : a % b < Dg.D ^ k := b_mod ha
  have HDV : Hid (∀ w', KeepS w (w.heap.size + 1) 2 [(w.heap.size, 0, .bool sb), (w.heap.size, 1, .slice ax lx cx), (w.heap.size, 2, .slice ay ly cy)] [(.slice ax lx cx, a), (.slice ay ly cy, b)] w' → Calls Tryz.prog 84 #[.slice ax lx cx, .slice ay ly cy] w' fun e w2 => (∃ q r, e = .returned (.tuple #[q, r]) ∧ RN w2 q (a / b) ∧ RN w2 r (a % b)) ∧ Gr w' w2) := Lib.hid (fun w' h => r_div (h.rn (.slice ax lx cx, a) (by simp)) (h.rn (.slice ay ly cy, b) (by simp)) ha hb (by omega) hb0)
  have HO2 : Hid (∀ w', Calls Tryz.prog 27 #[.int .u64 2] w' fun e w2 => (∃ r, e = .returned r ∧ RN w2 r 2) ∧ Gr w' w2) := Lib.hid (fun w' => r_ofU 2 (by decide) w')
  have HO1 : Hid (∀ w', Calls Tryz.prog 27 #[.int .u64 1] w' fun e w2 => (∃ r, e = .returned r ∧ RN w2 r 1) ∧ Gr w' w2) := Lib.hid (fun w' => r_ofU 1 (by decide) w')
  have HBB := Lib.hid (And.intro hqk hrk)
  have HBD := Lib.hid (And.intro hb hk)
  have HCC := Lib.hid hc
  have HQ0 := Lib.hid hq
  generalize hqe : a / b = q at *
  generalize hre : a % b = r at *
  clear hx hy h1 h3 g1 g2 hsz hS ha hb hb0 hqk hrk hqe hre hc hk hq
  obtain ⟨dz, hdz⟩ : ∃ dz, dz = decide (0 < q + 1) := ⟨_, rfl⟩
  have HDZ := Lib.hid hdz
  rw [← hdz]
  clear hdz
  go_enter Tryz.func23, Tryz.ntmps23
  obtain ⟨_, c0, c1, c2⟩ := HAL.out _ HS.out
  go_wp2_with fail
  generalize (w.alloc (.cells #[.bool sb, .slice ax lx cx, .slice ay ly cy] 29)).alloc (.cells #[.bool false, .slice none 0 0] 27) = wz at *
  refine (HDV.out _ HS.out).mono ?_
  rintro ev w1 ⟨⟨vq, vr, rfl, hvq, hvr⟩, hg1⟩
  obtain ⟨aq, lq, cq, rfl⟩ := rn_sl hvq
  obtain ⟨ar, lr, cr, rfl⟩ := rn_sl hvr
  have HVQ := Lib.hid hvq
  have HVR := Lib.hid hvr
  have HS1 := Lib.hid (KeepS.gr HS.out hg1)
  have HSD := Lib.hid (KeepS.gr HS1.out (Gr.drew (Gr.rf _) 1))
  have HVRD := Lib.hid (HVR.out.gr (Gr.drew (Gr.rf w1) 1))
  have HCM : Hid (∀ w' x, RN w' x (r * 2) → KeepS w (w.heap.size + 1) 2 [(w.heap.size, 0, .bool sb), (w.heap.size, 1, .slice ax lx cx), (w.heap.size, 2, .slice ay ly cy)] [(.slice ax lx cx, a), (.slice ay ly cy, b)] w' → Calls Tryz.prog 37 #[x, .slice ay ly cy] w' fun e w2 => e = .returned (.int .i64 (1)) ∧ Gr w' w2) := Lib.hid (fun w' x h hs => r_cmp (k := k + 1) h (hs.rn (.slice ay ly cy, b) (by simp)) (b_mul HBB.out.2 (show 2 < Dg.D ^ 1 by decide) rfl) (b_up HBD.out.1 (by omega)) (by have := HBD.out.2; omega) (cmpN_gt (by have := HCC.out; omega)))
  have HMU : Hid (∀ w' x, RN w' x 2 → Gr w1.drew w' → Calls Tryz.prog 80 #[.slice ar lr cr, x] w' fun e w2 => (∃ v, e = .returned v ∧ RN w2 v (r * 2)) ∧ Gr w' w2) := Lib.hid (fun w' x h hg => r_mul (k := k + 1) (HVRD.out.gr hg) h (b_up HBB.out.2 (by omega)) (b_up (show 2 < Dg.D ^ 1 by decide) (by omega)) (by have := HBD.out.2; omega))
  clear hvq hvr hg1 c0 c1 c2
  have HALG : Hid (∀ w', KeepS w (w.heap.size + 1) 2 [(w.heap.size, 0, .bool sb), (w.heap.size, 1, .slice ax lx cx), (w.heap.size, 2, .slice ay ly cy)] [(.slice ax lx cx, a), (.slice ay ly cy, b)] w' → Gr w1.drew w' → ((KeepS w (w.heap.size + 1) 2 [(w.heap.size, 0, .bool sb), (w.heap.size, 1, .slice ax lx cx), (w.heap.size, 2, .slice ay ly cy)] [(.slice ax lx cx, a), (.slice ay ly cy, b)] w' ∧ Gr w1.drew w') ∧ w'.cell? ⟨w.heap.size, 0, none⟩ = some (.bool sb) ∧ w'.cell? ⟨w.heap.size, 1, none⟩ = some (.slice ax lx cx) ∧ w'.cell? ⟨w.heap.size, 2, none⟩ = some (.slice ay ly cy))) := Lib.hid (fun w' h hg => ⟨⟨h, hg⟩, (HAL.out w' h).2⟩)
  go_wp2_with fail
  go_region_held3 (fun w' => (KeepS w (w.heap.size + 1) 2 [(w.heap.size, 0, .bool sb), (w.heap.size, 1, .slice ax lx cx), (w.heap.size, 2, .slice ay ly cy)] [(.slice ax lx cx, a), (.slice ay ly cy, b)] w' ∧ Gr w1.drew w') ∧ w'.cell? ⟨w.heap.size, 0, none⟩ = some (.bool sb) ∧ w'.cell? ⟨w.heap.size, 1, none⟩ = some (.slice ax lx cx) ∧ w'.cell? ⟨w.heap.size, 2, none⟩ = some (.slice ay ly cy))
    (first | exact HALG.out _ HSD.out (Gr.rf _) | exact HALG.out _ hs3 hq3 | exact HALG.out _ hs4 hq4 | exact HALG.out _ hs5 hq5 | fail)
    (first
      | (go_at_call 27; go_split_ands; refine (HO2.out _).mono ?_; rintro ev w3 ⟨⟨r3, rfl, hr3⟩, hg3⟩; have hs3 := KeepS.gr (by assumption) hg3; have hq3 : Gr w1.drew w3 := Gr.tr (by assumption) hg3)
      | (go_at_call 80; go_split_ands; refine (HMU.out _ _ hr3 (by assumption)).mono ?_; rintro ev w4 ⟨⟨r4, rfl, hr4⟩, hg4⟩; have hs4 := KeepS.gr (by assumption) hg4; have hq4 : Gr w1.drew w4 := Gr.tr (by assumption) hg4)
      | (go_at_call 37; go_split_ands; refine (HCM.out _ _ hr4 (by assumption)).mono ?_; rintro ev w5 ⟨rfl, hg5⟩; have hs5 := KeepS.gr (by assumption) hg5; have hq5 : Gr w1.drew w5 := Gr.tr (by assumption) hg5))
  have HS5 := Lib.hid hs5
  have hvq5 := HVQ.out.gr ((Gr.drew (Gr.rf w1) 1).tr hq5)
  have HVQ5 := Lib.hid hvq5
  obtain ⟨hlq, hlc, gq, oq, rfl, hgl, hcl⟩ := rn_first hvq5 (Nat.pos_of_ne_zero HQ0.out)
  have hb1 : decide (0 < (lq : Int)) = true := decide_eq_true (by omega)
  have hb1n : decide (0 < lq) = true := decide_eq_true hlq
  have hlqi : (0 : Int) < (lq : Int) := by omega
  obtain ⟨ob, hob, hobn⟩ : ∃ ob : Bool, (((q % Dg.D : Nat) : Int) % 2 == 1) = ob ∧ (q % 2 = 1 ↔ ob = true) := ⟨_, rfl, by rw [← dig_even q]; simp; omega⟩
  generalize q % Dg.D = dq at *
  have HOB := Lib.hid hobn
  clear hobn
  obtain ⟨_, c0, c1, c2⟩ := HAL.out _ HS5.out
  clear hs3 hs4 hs5 hq3 hq4 hq5 hg3 hg4 hg5 hr3 hr4 hvq5 HCM HMU HALG
  go_wp2_with fail
  refine (HO1.out _).mono ?_
  rintro ev w6 ⟨⟨r6, rfl, hr6⟩, hg6⟩
  have HG6 := Lib.hid hg6
  have HAD := Lib.hid (r_add (k := k + 1) (HVQ5.out.gr hg6) hr6 (b_up HBB.out.1 (by omega)) (b_one (by omega)) (by have := HBD.out.2; omega))
  clear hr6 hg6
  go_wp2_with fail
  refine HAD.out.mono ?_
  rintro ev w7 ⟨⟨r7, rfl, hr7⟩, hg7⟩
  obtain ⟨a7, l7, c7, rfl⟩ := rn_sl hr7
  have HR7 := Lib.hid hr7
  have HS7 := Lib.hid (KeepS.gr HS5.out (HG6.out.tr hg7))
  obtain ⟨_, c0, c1, c2⟩ := HAL.out _ HS7.out
  clear hr7 hg7
  have hin := rInt_calls sb (.slice a7 l7 c7) (q + 1) w7 HR7.out
  rw [← HDZ.out] at hin
  have HIN := Lib.hid hin
  clear hin
  go_wp2_with fail
  refine HIN.out.mono ?_
  rintro ev w8 ⟨rfl, hg8⟩
  have HR8 := Lib.hid (HR7.out.gr hg8)
  have HS8 := Lib.hid (KeepS.gr HS7.out hg8)
  obtain ⟨f0, u0, z0, k0⟩ := HS8.out.2.2.2.2 0 (by decide)
  obtain ⟨f1, u1, z1, k1⟩ := HS8.out.2.2.2.2 1 (by decide)
  have HE := Lib.hid (fun x y => two_set w8 (w.heap.size + 1) x y _ _ z0 z1 k0 k1)
  clear hg8
  go_wp2
  (try simp only [Exit.inBlock, Exit.then])
  refine bodyPost_ret (ret_near _ _ (HE.out _ _).1 _ rfl) rfl ?_
  exact ⟨⟨_, rfl, show RN _ _ _ from (HE.out _ _).2.1 _ _ HR8.out⟩, (HE.out _ _).2.2 w HS8.out.1 (by omega)⟩
set_option maxRecDepth 100000 in
set_option maxHeartbeats 8000000 in
theorem near_2ltz (sb : Bool) (vx vy : Value) (a b : Nat) (w : World) (hx : RN w vx a) (hy : RN w vy b) (k : Nat) (ha : a < Dg.D ^ k) (hb : b < Dg.D ^ k) (hk : k ≤ 400) (hb0 : 0 < b) (hc : a % b + a % b < b) (hq : a / b = 0) :
    Calls Tryz.prog 23 #[.agg #[.bool sb, vx, vy], .int .i64 2] w fun e w' => (∃ v, e = .returned (.agg #[.bool (sb && decide (0 < a / b)), v]) ∧ RN w' v (a / b)) ∧ Gr w w' := by
  obtain ⟨ax, lx, cx, rfl⟩ := rn_sl hx
  obtain ⟨ay, ly, cy, rfl⟩ := rn_sl hy
  have h1 := heap_alloc_new w (.cells #[.bool sb, .slice ax lx cx, .slice ay ly cy] 29)
  have h3 := heap_alloc_new (w.alloc (.cells #[.bool sb, .slice ax lx cx, .slice ay ly cy] 29)) (.cells #[.bool false, .slice none 0 0] 27)
  rw [size_al] at h3
  have g1 : Gr w (w.alloc (.cells #[.bool sb, .slice ax lx cx, .slice ay ly cy] 29)) := (Gr.rf w).alloc (Nat.le_refl _) _
  have g2 : Gr (w.alloc (.cells #[.bool sb, .slice ax lx cx, .slice ay ly cy] 29)) ((w.alloc (.cells #[.bool sb, .slice ax lx cx, .slice ay ly cy] 29)).alloc (.cells #[.bool false, .slice none 0 0] 27)) := (Gr.rf _).alloc (Nat.le_refl _) _
  have hsz : ((w.alloc (.cells #[.bool sb, .slice ax lx cx, .slice ay ly cy] 29)).alloc (.cells #[.bool false, .slice none 0 0] 27)).heap.size = w.heap.size + 2 := by rw [size_al, size_al]
  have h1 := g2.heap h1
  have hS : KeepS w (w.heap.size + 1) 2 [(w.heap.size, 0, .bool sb), (w.heap.size, 1, .slice ax lx cx), (w.heap.size, 2, .slice ay ly cy)] [(.slice ax lx cx, a), (.slice ay ly cy, b)] ((w.alloc (.cells #[.bool sb, .slice ax lx cx, .slice ay ly cy] 29)).alloc (.cells #[.bool false, .slice none 0 0] 27)) := by
    refine ⟨g1.tr g2, fun p hp => ?_, fun p hp => ?_, ⟨by omega, by omega⟩, fun j hj => ?_⟩
    · simp only [List.mem_cons, List.not_mem_nil, or_false] at hp
      rcases hp with rfl | rfl
      · exact hx.gr (g1.tr g2)
      · exact hy.gr (g1.tr g2)
    · simp only [List.mem_cons, List.not_mem_nil, or_false] at hp
      rcases hp with rfl | rfl | rfl
      · exact ⟨heap_cell h1 0, by show w.heap.size ≠ _; omega, by show w.heap.size < _; omega⟩
      · exact ⟨heap_cell h1 1, by show w.heap.size ≠ _; omega, by show w.heap.size < _; omega⟩
      · exact ⟨heap_cell h1 2, by show w.heap.size ≠ _; omega, by show w.heap.size < _; omega⟩
    · rcases j with _ | _ | j
      · exact ⟨heap_frz h3 0, _, heap_cell h3 0, fun n h => by cases h⟩
      · exact ⟨heap_frz h3 1, _, heap_cell h3 1, fun n h => by cases h⟩
      · omega
  have HAL : Hid (∀ w', KeepS w (w.heap.size + 1) 2 [(w.heap.size, 0, .bool sb), (w.heap.size, 1, .slice ax lx cx), (w.heap.size, 2, .slice ay ly cy)] [(.slice ax lx cx, a), (.slice ay ly cy, b)] w' → (KeepS w (w.heap.size + 1) 2 [(w.heap.size, 0, .bool sb), (w.heap.size, 1, .slice ax lx cx), (w.heap.size, 2, .slice ay ly cy)] [(.slice ax lx cx, a), (.slice ay ly cy, b)] w' ∧ w'.cell? ⟨w.heap.size, 0, none⟩ = some (.bool sb) ∧ w'.cell? ⟨w.heap.size, 1, none⟩ = some (.slice ax lx cx) ∧ w'.cell? ⟨w.heap.size, 2, none⟩ = some (.slice ay ly cy))) := Lib.hid (fun w' h => ⟨h, h.cell (w.heap.size, 0, .bool sb) (by simp), h.cell (w.heap.size, 1, .slice ax lx cx) (by simp), h.cell (w.heap.size, 2, .slice ay ly cy) (by simp)⟩)
  have HS := Lib.hid hS
  have hqk : a / b < Dg.D ^ k := b_div ha
  have hrk : a % b < Dg.D ^ k := b_mod ha
  have HDV : Hid (∀ w', KeepS w (w.heap.size + 1) 2 [(w.heap.size, 0, .bool sb), (w.heap.size, 1, .slice ax lx cx), (w.heap.size, 2, .slice ay ly cy)] [(.slice ax lx cx, a), (.slice ay ly cy, b)] w' → Calls Tryz.prog 84 #[.slice ax lx cx, .slice ay ly cy] w' fun e w2 => (∃ q r, e = .returned (.tuple #[q, r]) ∧ RN w2 q (a / b) ∧ RN w2 r (a % b)) ∧ Gr w' w2) := Lib.hid (fun w' h => r_div (h.rn (.slice ax lx cx, a) (by simp)) (h.rn (.slice ay ly cy, b) (by simp)) ha hb (by omega) hb0)
  have HO2 : Hid (∀ w', Calls Tryz.prog 27 #[.int .u64 2] w' fun e w2 => (∃ r, e = .returned r ∧ RN w2 r 2) ∧ Gr w' w2) := Lib.hid (fun w' => r_ofU 2 (by decide) w')
  have HO1 : Hid (∀ w', Calls Tryz.prog 27 #[.int .u64 1] w' fun e w2 => (∃ r, e = .returned r ∧ RN w2 r 1) ∧ Gr w' w2) := Lib.hid (fun w' => r_ofU 1 (by decide) w')
  have HBB := Lib.hid (And.intro hqk hrk)
  have HBD := Lib.hid (And.intro hb hk)
  have HCC := Lib.hid hc
  have HQ0 := Lib.hid hq
  generalize hqe : a / b = q at *
  generalize hre : a % b = r at *
  clear hx hy h1 h3 g1 g2 hsz hS ha hb hb0 hqk hrk hqe hre hc hk hq
  obtain ⟨dz, hdz⟩ : ∃ dz, dz = decide (0 < q) := ⟨_, rfl⟩
  have HDZ := Lib.hid hdz
  rw [← hdz]
  clear hdz
  go_enter Tryz.func23, Tryz.ntmps23
  obtain ⟨_, c0, c1, c2⟩ := HAL.out _ HS.out
  go_wp2_with fail
  generalize (w.alloc (.cells #[.bool sb, .slice ax lx cx, .slice ay ly cy] 29)).alloc (.cells #[.bool false, .slice none 0 0] 27) = wz at *
  refine (HDV.out _ HS.out).mono ?_
  rintro ev w1 ⟨⟨vq, vr, rfl, hvq, hvr⟩, hg1⟩
  obtain ⟨aq, lq, cq, rfl⟩ := rn_sl hvq
  obtain ⟨ar, lr, cr, rfl⟩ := rn_sl hvr
  have HVQ := Lib.hid hvq
  have HVR := Lib.hid hvr
  have HS1 := Lib.hid (KeepS.gr HS.out hg1)
  have HSD := Lib.hid (KeepS.gr HS1.out (Gr.drew (Gr.rf _) 1))
  have HVRD := Lib.hid (HVR.out.gr (Gr.drew (Gr.rf w1) 1))
  have HCM : Hid (∀ w' x, RN w' x (r * 2) → KeepS w (w.heap.size + 1) 2 [(w.heap.size, 0, .bool sb), (w.heap.size, 1, .slice ax lx cx), (w.heap.size, 2, .slice ay ly cy)] [(.slice ax lx cx, a), (.slice ay ly cy, b)] w' → Calls Tryz.prog 37 #[x, .slice ay ly cy] w' fun e w2 => e = .returned (.int .i64 (-1)) ∧ Gr w' w2) := Lib.hid (fun w' x h hs => r_cmp (k := k + 1) h (hs.rn (.slice ay ly cy, b) (by simp)) (b_mul HBB.out.2 (show 2 < Dg.D ^ 1 by decide) rfl) (b_up HBD.out.1 (by omega)) (by have := HBD.out.2; omega) (cmpN_lt (by have := HCC.out; omega)))
  have HMU : Hid (∀ w' x, RN w' x 2 → Gr w1.drew w' → Calls Tryz.prog 80 #[.slice ar lr cr, x] w' fun e w2 => (∃ v, e = .returned v ∧ RN w2 v (r * 2)) ∧ Gr w' w2) := Lib.hid (fun w' x h hg => r_mul (k := k + 1) (HVRD.out.gr hg) h (b_up HBB.out.2 (by omega)) (b_up (show 2 < Dg.D ^ 1 by decide) (by omega)) (by have := HBD.out.2; omega))
  clear hvq hvr hg1 c0 c1 c2
  have HALG : Hid (∀ w', KeepS w (w.heap.size + 1) 2 [(w.heap.size, 0, .bool sb), (w.heap.size, 1, .slice ax lx cx), (w.heap.size, 2, .slice ay ly cy)] [(.slice ax lx cx, a), (.slice ay ly cy, b)] w' → Gr w1.drew w' → ((KeepS w (w.heap.size + 1) 2 [(w.heap.size, 0, .bool sb), (w.heap.size, 1, .slice ax lx cx), (w.heap.size, 2, .slice ay ly cy)] [(.slice ax lx cx, a), (.slice ay ly cy, b)] w' ∧ Gr w1.drew w') ∧ w'.cell? ⟨w.heap.size, 0, none⟩ = some (.bool sb) ∧ w'.cell? ⟨w.heap.size, 1, none⟩ = some (.slice ax lx cx) ∧ w'.cell? ⟨w.heap.size, 2, none⟩ = some (.slice ay ly cy))) := Lib.hid (fun w' h hg => ⟨⟨h, hg⟩, (HAL.out w' h).2⟩)
  go_wp2_with fail
  go_region_held3 (fun w' => (KeepS w (w.heap.size + 1) 2 [(w.heap.size, 0, .bool sb), (w.heap.size, 1, .slice ax lx cx), (w.heap.size, 2, .slice ay ly cy)] [(.slice ax lx cx, a), (.slice ay ly cy, b)] w' ∧ Gr w1.drew w') ∧ w'.cell? ⟨w.heap.size, 0, none⟩ = some (.bool sb) ∧ w'.cell? ⟨w.heap.size, 1, none⟩ = some (.slice ax lx cx) ∧ w'.cell? ⟨w.heap.size, 2, none⟩ = some (.slice ay ly cy))
    (first | exact HALG.out _ HSD.out (Gr.rf _) | exact HALG.out _ hs3 hq3 | exact HALG.out _ hs4 hq4 | exact HALG.out _ hs5 hq5 | fail)
    (first
      | (go_at_call 27; go_split_ands; refine (HO2.out _).mono ?_; rintro ev w3 ⟨⟨r3, rfl, hr3⟩, hg3⟩; have hs3 := KeepS.gr (by assumption) hg3; have hq3 : Gr w1.drew w3 := Gr.tr (by assumption) hg3)
      | (go_at_call 80; go_split_ands; refine (HMU.out _ _ hr3 (by assumption)).mono ?_; rintro ev w4 ⟨⟨r4, rfl, hr4⟩, hg4⟩; have hs4 := KeepS.gr (by assumption) hg4; have hq4 : Gr w1.drew w4 := Gr.tr (by assumption) hg4)
      | (go_at_call 37; go_split_ands; refine (HCM.out _ _ hr4 (by assumption)).mono ?_; rintro ev w5 ⟨rfl, hg5⟩; have hs5 := KeepS.gr (by assumption) hg5; have hq5 : Gr w1.drew w5 := Gr.tr (by assumption) hg5))
  have HS5 := Lib.hid hs5
  have hvq5 := HVQ.out.gr ((Gr.drew (Gr.rf w1) 1).tr hq5)
  have HVQ5 := Lib.hid hvq5
  have hlq : lq = 0 := by have h1 := (digs_len0 q).2 HQ0.out; obtain ⟨x, c, h2⟩ := rn_len hvq5; injection h2 with _ h2; omega
  have hb1 : decide (0 < (lq : Int)) = false := decide_eq_false (by omega)
  have hb1n : decide (0 < lq) = false := decide_eq_false (by omega)
  clear hlq
  obtain ⟨_, c0, c1, c2⟩ := HAL.out _ HS5.out
  clear hs3 hs4 hs5 hq3 hq4 hq5 hg3 hg4 hg5 hr3 hr4 hvq5 HCM HMU HALG
  go_wp2_with fail
  have HR7 := HVQ5
  have HS7 := HS5
  have hin := rInt_calls sb _ q _ HR7.out
  rw [← HDZ.out] at hin
  have HIN := Lib.hid hin
  clear hin
  refine HIN.out.mono ?_
  rintro ev w8 ⟨rfl, hg8⟩
  have HR8 := Lib.hid (HR7.out.gr hg8)
  have HS8 := Lib.hid (KeepS.gr HS7.out hg8)
  obtain ⟨f0, u0, z0, k0⟩ := HS8.out.2.2.2.2 0 (by decide)
  obtain ⟨f1, u1, z1, k1⟩ := HS8.out.2.2.2.2 1 (by decide)
  have HE := Lib.hid (fun x y => two_set w8 (w.heap.size + 1) x y _ _ z0 z1 k0 k1)
  clear hg8
  go_wp2
  (try simp only [Exit.inBlock, Exit.then])
  refine bodyPost_ret (ret_near _ _ (HE.out _ _).1 _ rfl) rfl ?_
  exact ⟨⟨_, rfl, show RN _ _ _ from (HE.out _ _).2.1 _ _ HR8.out⟩, (HE.out _ _).2.2 w HS8.out.1 (by omega)⟩
set_option maxRecDepth 100000 in
set_option maxHeartbeats 8000000 in
theorem near_2ltq (sb : Bool) (vx vy : Value) (a b : Nat) (w : World) (hx : RN w vx a) (hy : RN w vy b) (k : Nat) (ha : a < Dg.D ^ k) (hb : b < Dg.D ^ k) (hk : k ≤ 400) (hb0 : 0 < b) (hc : a % b + a % b < b) (hq : a / b ≠ 0) :
    Calls Tryz.prog 23 #[.agg #[.bool sb, vx, vy], .int .i64 2] w fun e w' => (∃ v, e = .returned (.agg #[.bool (sb && decide (0 < a / b)), v]) ∧ RN w' v (a / b)) ∧ Gr w w' := by
  obtain ⟨ax, lx, cx, rfl⟩ := rn_sl hx
  obtain ⟨ay, ly, cy, rfl⟩ := rn_sl hy
  have h1 := heap_alloc_new w (.cells #[.bool sb, .slice ax lx cx, .slice ay ly cy] 29)
  have h3 := heap_alloc_new (w.alloc (.cells #[.bool sb, .slice ax lx cx, .slice ay ly cy] 29)) (.cells #[.bool false, .slice none 0 0] 27)
  rw [size_al] at h3
  have g1 : Gr w (w.alloc (.cells #[.bool sb, .slice ax lx cx, .slice ay ly cy] 29)) := (Gr.rf w).alloc (Nat.le_refl _) _
  have g2 : Gr (w.alloc (.cells #[.bool sb, .slice ax lx cx, .slice ay ly cy] 29)) ((w.alloc (.cells #[.bool sb, .slice ax lx cx, .slice ay ly cy] 29)).alloc (.cells #[.bool false, .slice none 0 0] 27)) := (Gr.rf _).alloc (Nat.le_refl _) _
  have hsz : ((w.alloc (.cells #[.bool sb, .slice ax lx cx, .slice ay ly cy] 29)).alloc (.cells #[.bool false, .slice none 0 0] 27)).heap.size = w.heap.size + 2 := by rw [size_al, size_al]
  have h1 := g2.heap h1
  have hS : KeepS w (w.heap.size + 1) 2 [(w.heap.size, 0, .bool sb), (w.heap.size, 1, .slice ax lx cx), (w.heap.size, 2, .slice ay ly cy)] [(.slice ax lx cx, a), (.slice ay ly cy, b)] ((w.alloc (.cells #[.bool sb, .slice ax lx cx, .slice ay ly cy] 29)).alloc (.cells #[.bool false, .slice none 0 0] 27)) := by
    refine ⟨g1.tr g2, fun p hp => ?_, fun p hp => ?_, ⟨by omega, by omega⟩, fun j hj => ?_⟩
    · simp only [List.mem_cons, List.not_mem_nil, or_false] at hp
      rcases hp with rfl | rfl
      · exact hx.gr (g1.tr g2)
      · exact hy.gr (g1.tr g2)
    · simp only [List.mem_cons, List.not_mem_nil, or_false] at hp
      rcases hp with rfl | rfl | rfl
      · exact ⟨heap_cell h1 0, by show w.heap.size ≠ _; omega, by show w.heap.size < _; omega⟩
      · exact ⟨heap_cell h1 1, by show w.heap.size ≠ _; omega, by show w.heap.size < _; omega⟩
      · exact ⟨heap_cell h1 2, by show w.heap.size ≠ _; omega, by show w.heap.size < _; omega⟩
    · rcases j with _ | _ | j
      · exact ⟨heap_frz h3 0, _, heap_cell h3 0, fun n h => by cases h⟩
      · exact ⟨heap_frz h3 1, _, heap_cell h3 1, fun n h => by cases h⟩
      · omega
  have HAL : Hid (∀ w', KeepS w (w.heap.size + 1) 2 [(w.heap.size, 0, .bool sb), (w.heap.size, 1, .slice ax lx cx), (w.heap.size, 2, .slice ay ly cy)] [(.slice ax lx cx, a), (.slice ay ly cy, b)] w' → (KeepS w (w.heap.size + 1) 2 [(w.heap.size, 0, .bool sb), (w.heap.size, 1, .slice ax lx cx), (w.heap.size, 2, .slice ay ly cy)] [(.slice ax lx cx, a), (.slice ay ly cy, b)] w' ∧ w'.cell? ⟨w.heap.size, 0, none⟩ = some (.bool sb) ∧ w'.cell? ⟨w.heap.size, 1, none⟩ = some (.slice ax lx cx) ∧ w'.cell? ⟨w.heap.size, 2, none⟩ = some (.slice ay ly cy))) := Lib.hid (fun w' h => ⟨h, h.cell (w.heap.size, 0, .bool sb) (by simp), h.cell (w.heap.size, 1, .slice ax lx cx) (by simp), h.cell (w.heap.size, 2, .slice ay ly cy) (by simp)⟩)
  have HS := Lib.hid hS
  have hqk : a / b < Dg.D ^ k := b_div ha
  have hrk : a % b < Dg.D ^ k := b_mod ha
  have HDV : Hid (∀ w', KeepS w (w.heap.size + 1) 2 [(w.heap.size, 0, .bool sb), (w.heap.size, 1, .slice ax lx cx), (w.heap.size, 2, .slice ay ly cy)] [(.slice ax lx cx, a), (.slice ay ly cy, b)] w' → Calls Tryz.prog 84 #[.slice ax lx cx, .slice ay ly cy] w' fun e w2 => (∃ q r, e = .returned (.tuple #[q, r]) ∧ RN w2 q (a / b) ∧ RN w2 r (a % b)) ∧ Gr w' w2) := Lib.hid (fun w' h => r_div (h.rn (.slice ax lx cx, a) (by simp)) (h.rn (.slice ay ly cy, b) (by simp)) ha hb (by omega) hb0)
  have HO2 : Hid (∀ w', Calls Tryz.prog 27 #[.int .u64 2] w' fun e w2 => (∃ r, e = .returned r ∧ RN w2 r 2) ∧ Gr w' w2) := Lib.hid (fun w' => r_ofU 2 (by decide) w')
  have HO1 : Hid (∀ w', Calls Tryz.prog 27 #[.int .u64 1] w' fun e w2 => (∃ r, e = .returned r ∧ RN w2 r 1) ∧ Gr w' w2) := Lib.hid (fun w' => r_ofU 1 (by decide) w')
  have HBB := Lib.hid (And.intro hqk hrk)
  have HBD := Lib.hid (And.intro hb hk)
  have HCC := Lib.hid hc
  have HQ0 := Lib.hid hq
  generalize hqe : a / b = q at *
  generalize hre : a % b = r at *
  clear hx hy h1 h3 g1 g2 hsz hS ha hb hb0 hqk hrk hqe hre hc hk hq
  obtain ⟨dz, hdz⟩ : ∃ dz, dz = decide (0 < q) := ⟨_, rfl⟩
  have HDZ := Lib.hid hdz
  rw [← hdz]
  clear hdz
  go_enter Tryz.func23, Tryz.ntmps23
  obtain ⟨_, c0, c1, c2⟩ := HAL.out _ HS.out
  go_wp2_with fail
  generalize (w.alloc (.cells #[.bool sb, .slice ax lx cx, .slice ay ly cy] 29)).alloc (.cells #[.bool false, .slice none 0 0] 27) = wz at *
  refine (HDV.out _ HS.out).mono ?_
  rintro ev w1 ⟨⟨vq, vr, rfl, hvq, hvr⟩, hg1⟩
  obtain ⟨aq, lq, cq, rfl⟩ := rn_sl hvq
  obtain ⟨ar, lr, cr, rfl⟩ := rn_sl hvr
  have HVQ := Lib.hid hvq
  have HVR := Lib.hid hvr
  have HS1 := Lib.hid (KeepS.gr HS.out hg1)
  have HSD := Lib.hid (KeepS.gr HS1.out (Gr.drew (Gr.rf _) 1))
  have HVRD := Lib.hid (HVR.out.gr (Gr.drew (Gr.rf w1) 1))
  have HCM : Hid (∀ w' x, RN w' x (r * 2) → KeepS w (w.heap.size + 1) 2 [(w.heap.size, 0, .bool sb), (w.heap.size, 1, .slice ax lx cx), (w.heap.size, 2, .slice ay ly cy)] [(.slice ax lx cx, a), (.slice ay ly cy, b)] w' → Calls Tryz.prog 37 #[x, .slice ay ly cy] w' fun e w2 => e = .returned (.int .i64 (-1)) ∧ Gr w' w2) := Lib.hid (fun w' x h hs => r_cmp (k := k + 1) h (hs.rn (.slice ay ly cy, b) (by simp)) (b_mul HBB.out.2 (show 2 < Dg.D ^ 1 by decide) rfl) (b_up HBD.out.1 (by omega)) (by have := HBD.out.2; omega) (cmpN_lt (by have := HCC.out; omega)))
  have HMU : Hid (∀ w' x, RN w' x 2 → Gr w1.drew w' → Calls Tryz.prog 80 #[.slice ar lr cr, x] w' fun e w2 => (∃ v, e = .returned v ∧ RN w2 v (r * 2)) ∧ Gr w' w2) := Lib.hid (fun w' x h hg => r_mul (k := k + 1) (HVRD.out.gr hg) h (b_up HBB.out.2 (by omega)) (b_up (show 2 < Dg.D ^ 1 by decide) (by omega)) (by have := HBD.out.2; omega))
  clear hvq hvr hg1 c0 c1 c2
  have HALG : Hid (∀ w', KeepS w (w.heap.size + 1) 2 [(w.heap.size, 0, .bool sb), (w.heap.size, 1, .slice ax lx cx), (w.heap.size, 2, .slice ay ly cy)] [(.slice ax lx cx, a), (.slice ay ly cy, b)] w' → Gr w1.drew w' → ((KeepS w (w.heap.size + 1) 2 [(w.heap.size, 0, .bool sb), (w.heap.size, 1, .slice ax lx cx), (w.heap.size, 2, .slice ay ly cy)] [(.slice ax lx cx, a), (.slice ay ly cy, b)] w' ∧ Gr w1.drew w') ∧ w'.cell? ⟨w.heap.size, 0, none⟩ = some (.bool sb) ∧ w'.cell? ⟨w.heap.size, 1, none⟩ = some (.slice ax lx cx) ∧ w'.cell? ⟨w.heap.size, 2, none⟩ = some (.slice ay ly cy))) := Lib.hid (fun w' h hg => ⟨⟨h, hg⟩, (HAL.out w' h).2⟩)
  go_wp2_with fail
  go_region_held3 (fun w' => (KeepS w (w.heap.size + 1) 2 [(w.heap.size, 0, .bool sb), (w.heap.size, 1, .slice ax lx cx), (w.heap.size, 2, .slice ay ly cy)] [(.slice ax lx cx, a), (.slice ay ly cy, b)] w' ∧ Gr w1.drew w') ∧ w'.cell? ⟨w.heap.size, 0, none⟩ = some (.bool sb) ∧ w'.cell? ⟨w.heap.size, 1, none⟩ = some (.slice ax lx cx) ∧ w'.cell? ⟨w.heap.size, 2, none⟩ = some (.slice ay ly cy))
    (first | exact HALG.out _ HSD.out (Gr.rf _) | exact HALG.out _ hs3 hq3 | exact HALG.out _ hs4 hq4 | exact HALG.out _ hs5 hq5 | fail)
    (first
      | (go_at_call 27; go_split_ands; refine (HO2.out _).mono ?_; rintro ev w3 ⟨⟨r3, rfl, hr3⟩, hg3⟩; have hs3 := KeepS.gr (by assumption) hg3; have hq3 : Gr w1.drew w3 := Gr.tr (by assumption) hg3)
      | (go_at_call 80; go_split_ands; refine (HMU.out _ _ hr3 (by assumption)).mono ?_; rintro ev w4 ⟨⟨r4, rfl, hr4⟩, hg4⟩; have hs4 := KeepS.gr (by assumption) hg4; have hq4 : Gr w1.drew w4 := Gr.tr (by assumption) hg4)
      | (go_at_call 37; go_split_ands; refine (HCM.out _ _ hr4 (by assumption)).mono ?_; rintro ev w5 ⟨rfl, hg5⟩; have hs5 := KeepS.gr (by assumption) hg5; have hq5 : Gr w1.drew w5 := Gr.tr (by assumption) hg5))
  have HS5 := Lib.hid hs5
  have hvq5 := HVQ.out.gr ((Gr.drew (Gr.rf w1) 1).tr hq5)
  have HVQ5 := Lib.hid hvq5
  obtain ⟨hlq, hlc, gq, oq, rfl, hgl, hcl⟩ := rn_first hvq5 (Nat.pos_of_ne_zero HQ0.out)
  have hb1 : decide (0 < (lq : Int)) = true := decide_eq_true (by omega)
  have hb1n : decide (0 < lq) = true := decide_eq_true hlq
  have hlqi : (0 : Int) < (lq : Int) := by omega
  obtain ⟨ob, hob, hobn⟩ : ∃ ob : Bool, (((q % Dg.D : Nat) : Int) % 2 == 1) = ob ∧ (q % 2 = 1 ↔ ob = true) := ⟨_, rfl, by rw [← dig_even q]; simp; omega⟩
  generalize q % Dg.D = dq at *
  have HOB := Lib.hid hobn
  clear hobn
  obtain ⟨_, c0, c1, c2⟩ := HAL.out _ HS5.out
  clear hs3 hs4 hs5 hq3 hq4 hq5 hg3 hg4 hg5 hr3 hr4 hvq5 HCM HMU HALG
  go_wp2_with fail
  have HR7 := HVQ5
  have HS7 := HS5
  have hin := rInt_calls sb _ q _ HR7.out
  rw [← HDZ.out] at hin
  have HIN := Lib.hid hin
  clear hin
  refine HIN.out.mono ?_
  rintro ev w8 ⟨rfl, hg8⟩
  have HR8 := Lib.hid (HR7.out.gr hg8)
  have HS8 := Lib.hid (KeepS.gr HS7.out hg8)
  obtain ⟨f0, u0, z0, k0⟩ := HS8.out.2.2.2.2 0 (by decide)
  obtain ⟨f1, u1, z1, k1⟩ := HS8.out.2.2.2.2 1 (by decide)
  have HE := Lib.hid (fun x y => two_set w8 (w.heap.size + 1) x y _ _ z0 z1 k0 k1)
  clear hg8
  go_wp2
  (try simp only [Exit.inBlock, Exit.then])
  refine bodyPost_ret (ret_near _ _ (HE.out _ _).1 _ rfl) rfl ?_
  exact ⟨⟨_, rfl, show RN _ _ _ from (HE.out _ _).2.1 _ _ HR8.out⟩, (HE.out _ _).2.2 w HS8.out.1 (by omega)⟩
set_option maxRecDepth 100000 in
set_option maxHeartbeats 8000000 in
theorem near_2eqz (sb : Bool) (vx vy : Value) (a b : Nat) (w : World) (hx : RN w vx a) (hy : RN w vy b) (k : Nat) (ha : a < Dg.D ^ k) (hb : b < Dg.D ^ k) (hk : k ≤ 400) (hb0 : 0 < b) (hc : a % b + a % b = b) (hq : a / b = 0) :
    Calls Tryz.prog 23 #[.agg #[.bool sb, vx, vy], .int .i64 2] w fun e w' => (∃ v, e = .returned (.agg #[.bool (sb && decide (0 < a / b)), v]) ∧ RN w' v (a / b)) ∧ Gr w w' := by
  obtain ⟨ax, lx, cx, rfl⟩ := rn_sl hx
  obtain ⟨ay, ly, cy, rfl⟩ := rn_sl hy
  have h1 := heap_alloc_new w (.cells #[.bool sb, .slice ax lx cx, .slice ay ly cy] 29)
  have h3 := heap_alloc_new (w.alloc (.cells #[.bool sb, .slice ax lx cx, .slice ay ly cy] 29)) (.cells #[.bool false, .slice none 0 0] 27)
  rw [size_al] at h3
  have g1 : Gr w (w.alloc (.cells #[.bool sb, .slice ax lx cx, .slice ay ly cy] 29)) := (Gr.rf w).alloc (Nat.le_refl _) _
  have g2 : Gr (w.alloc (.cells #[.bool sb, .slice ax lx cx, .slice ay ly cy] 29)) ((w.alloc (.cells #[.bool sb, .slice ax lx cx, .slice ay ly cy] 29)).alloc (.cells #[.bool false, .slice none 0 0] 27)) := (Gr.rf _).alloc (Nat.le_refl _) _
  have hsz : ((w.alloc (.cells #[.bool sb, .slice ax lx cx, .slice ay ly cy] 29)).alloc (.cells #[.bool false, .slice none 0 0] 27)).heap.size = w.heap.size + 2 := by rw [size_al, size_al]
  have h1 := g2.heap h1
  have hS : KeepS w (w.heap.size + 1) 2 [(w.heap.size, 0, .bool sb), (w.heap.size, 1, .slice ax lx cx), (w.heap.size, 2, .slice ay ly cy)] [(.slice ax lx cx, a), (.slice ay ly cy, b)] ((w.alloc (.cells #[.bool sb, .slice ax lx cx, .slice ay ly cy] 29)).alloc (.cells #[.bool false, .slice none 0 0] 27)) := by
    refine ⟨g1.tr g2, fun p hp => ?_, fun p hp => ?_, ⟨by omega, by omega⟩, fun j hj => ?_⟩
    · simp only [List.mem_cons, List.not_mem_nil, or_false] at hp
      rcases hp with rfl | rfl
      · exact hx.gr (g1.tr g2)
      · exact hy.gr (g1.tr g2)
    · simp only [List.mem_cons, List.not_mem_nil, or_false] at hp
      rcases hp with rfl | rfl | rfl
      · exact ⟨heap_cell h1 0, by show w.heap.size ≠ _; omega, by show w.heap.size < _; omega⟩
      · exact ⟨heap_cell h1 1, by show w.heap.size ≠ _; omega, by show w.heap.size < _; omega⟩
      · exact ⟨heap_cell h1 2, by show w.heap.size ≠ _; omega, by show w.heap.size < _; omega⟩
    · rcases j with _ | _ | j
      · exact ⟨heap_frz h3 0, _, heap_cell h3 0, fun n h => by cases h⟩
      · exact ⟨heap_frz h3 1, _, heap_cell h3 1, fun n h => by cases h⟩
      · omega
  have HAL : Hid (∀ w', KeepS w (w.heap.size + 1) 2 [(w.heap.size, 0, .bool sb), (w.heap.size, 1, .slice ax lx cx), (w.heap.size, 2, .slice ay ly cy)] [(.slice ax lx cx, a), (.slice ay ly cy, b)] w' → (KeepS w (w.heap.size + 1) 2 [(w.heap.size, 0, .bool sb), (w.heap.size, 1, .slice ax lx cx), (w.heap.size, 2, .slice ay ly cy)] [(.slice ax lx cx, a), (.slice ay ly cy, b)] w' ∧ w'.cell? ⟨w.heap.size, 0, none⟩ = some (.bool sb) ∧ w'.cell? ⟨w.heap.size, 1, none⟩ = some (.slice ax lx cx) ∧ w'.cell? ⟨w.heap.size, 2, none⟩ = some (.slice ay ly cy))) := Lib.hid (fun w' h => ⟨h, h.cell (w.heap.size, 0, .bool sb) (by simp), h.cell (w.heap.size, 1, .slice ax lx cx) (by simp), h.cell (w.heap.size, 2, .slice ay ly cy) (by simp)⟩)
  have HS := Lib.hid hS
  have hqk : a / b < Dg.D ^ k := b_div ha
  have hrk : a % b < Dg.D ^ k := b_mod ha
  have HDV : Hid (∀ w', KeepS w (w.heap.size + 1) 2 [(w.heap.size, 0, .bool sb), (w.heap.size, 1, .slice ax lx cx), (w.heap.size, 2, .slice ay ly cy)] [(.slice ax lx cx, a), (.slice ay ly cy, b)] w' → Calls Tryz.prog 84 #[.slice ax lx cx, .slice ay ly cy] w' fun e w2 => (∃ q r, e = .returned (.tuple #[q, r]) ∧ RN w2 q (a / b) ∧ RN w2 r (a % b)) ∧ Gr w' w2) := Lib.hid (fun w' h => r_div (h.rn (.slice ax lx cx, a) (by simp)) (h.rn (.slice ay ly cy, b) (by simp)) ha hb (by omega) hb0)
  have HO2 : Hid (∀ w', Calls Tryz.prog 27 #[.int .u64 2] w' fun e w2 => (∃ r, e = .returned r ∧ RN w2 r 2) ∧ Gr w' w2) := Lib.hid (fun w' => r_ofU 2 (by decide) w')
  have HO1 : Hid (∀ w', Calls Tryz.prog 27 #[.int .u64 1] w' fun e w2 => (∃ r, e = .returned r ∧ RN w2 r 1) ∧ Gr w' w2) := Lib.hid (fun w' => r_ofU 1 (by decide) w')
  have HBB := Lib.hid (And.intro hqk hrk)
  have HBD := Lib.hid (And.intro hb hk)
  have HCC := Lib.hid hc
  have HQ0 := Lib.hid hq
  generalize hqe : a / b = q at *
  generalize hre : a % b = r at *
  clear hx hy h1 h3 g1 g2 hsz hS ha hb hb0 hqk hrk hqe hre hc hk hq
  obtain ⟨dz, hdz⟩ : ∃ dz, dz = decide (0 < q) := ⟨_, rfl⟩
  have HDZ := Lib.hid hdz
  rw [← hdz]
  clear hdz
  go_enter Tryz.func23, Tryz.ntmps23
  obtain ⟨_, c0, c1, c2⟩ := HAL.out _ HS.out
  go_wp2_with fail
  generalize (w.alloc (.cells #[.bool sb, .slice ax lx cx, .slice ay ly cy] 29)).alloc (.cells #[.bool false, .slice none 0 0] 27) = wz at *
  refine (HDV.out _ HS.out).mono ?_
  rintro ev w1 ⟨⟨vq, vr, rfl, hvq, hvr⟩, hg1⟩
  obtain ⟨aq, lq, cq, rfl⟩ := rn_sl hvq
  obtain ⟨ar, lr, cr, rfl⟩ := rn_sl hvr
  have HVQ := Lib.hid hvq
  have HVR := Lib.hid hvr
  have HS1 := Lib.hid (KeepS.gr HS.out hg1)
  have HSD := Lib.hid (KeepS.gr HS1.out (Gr.drew (Gr.rf _) 1))
  have HVRD := Lib.hid (HVR.out.gr (Gr.drew (Gr.rf w1) 1))
  have HCM : Hid (∀ w' x, RN w' x (r * 2) → KeepS w (w.heap.size + 1) 2 [(w.heap.size, 0, .bool sb), (w.heap.size, 1, .slice ax lx cx), (w.heap.size, 2, .slice ay ly cy)] [(.slice ax lx cx, a), (.slice ay ly cy, b)] w' → Calls Tryz.prog 37 #[x, .slice ay ly cy] w' fun e w2 => e = .returned (.int .i64 (0)) ∧ Gr w' w2) := Lib.hid (fun w' x h hs => r_cmp (k := k + 1) h (hs.rn (.slice ay ly cy, b) (by simp)) (b_mul HBB.out.2 (show 2 < Dg.D ^ 1 by decide) rfl) (b_up HBD.out.1 (by omega)) (by have := HBD.out.2; omega) (by rw [show r * 2 = b by have := HCC.out; omega]; exact cmpN_eq b))
  have HMU : Hid (∀ w' x, RN w' x 2 → Gr w1.drew w' → Calls Tryz.prog 80 #[.slice ar lr cr, x] w' fun e w2 => (∃ v, e = .returned v ∧ RN w2 v (r * 2)) ∧ Gr w' w2) := Lib.hid (fun w' x h hg => r_mul (k := k + 1) (HVRD.out.gr hg) h (b_up HBB.out.2 (by omega)) (b_up (show 2 < Dg.D ^ 1 by decide) (by omega)) (by have := HBD.out.2; omega))
  clear hvq hvr hg1 c0 c1 c2
  have HALG : Hid (∀ w', KeepS w (w.heap.size + 1) 2 [(w.heap.size, 0, .bool sb), (w.heap.size, 1, .slice ax lx cx), (w.heap.size, 2, .slice ay ly cy)] [(.slice ax lx cx, a), (.slice ay ly cy, b)] w' → Gr w1.drew w' → ((KeepS w (w.heap.size + 1) 2 [(w.heap.size, 0, .bool sb), (w.heap.size, 1, .slice ax lx cx), (w.heap.size, 2, .slice ay ly cy)] [(.slice ax lx cx, a), (.slice ay ly cy, b)] w' ∧ Gr w1.drew w') ∧ w'.cell? ⟨w.heap.size, 0, none⟩ = some (.bool sb) ∧ w'.cell? ⟨w.heap.size, 1, none⟩ = some (.slice ax lx cx) ∧ w'.cell? ⟨w.heap.size, 2, none⟩ = some (.slice ay ly cy))) := Lib.hid (fun w' h hg => ⟨⟨h, hg⟩, (HAL.out w' h).2⟩)
  go_wp2_with fail
  go_region_held3 (fun w' => (KeepS w (w.heap.size + 1) 2 [(w.heap.size, 0, .bool sb), (w.heap.size, 1, .slice ax lx cx), (w.heap.size, 2, .slice ay ly cy)] [(.slice ax lx cx, a), (.slice ay ly cy, b)] w' ∧ Gr w1.drew w') ∧ w'.cell? ⟨w.heap.size, 0, none⟩ = some (.bool sb) ∧ w'.cell? ⟨w.heap.size, 1, none⟩ = some (.slice ax lx cx) ∧ w'.cell? ⟨w.heap.size, 2, none⟩ = some (.slice ay ly cy))
    (first | exact HALG.out _ HSD.out (Gr.rf _) | exact HALG.out _ hs3 hq3 | exact HALG.out _ hs4 hq4 | exact HALG.out _ hs5 hq5 | fail)
    (first
      | (go_at_call 27; go_split_ands; refine (HO2.out _).mono ?_; rintro ev w3 ⟨⟨r3, rfl, hr3⟩, hg3⟩; have hs3 := KeepS.gr (by assumption) hg3; have hq3 : Gr w1.drew w3 := Gr.tr (by assumption) hg3)
      | (go_at_call 80; go_split_ands; refine (HMU.out _ _ hr3 (by assumption)).mono ?_; rintro ev w4 ⟨⟨r4, rfl, hr4⟩, hg4⟩; have hs4 := KeepS.gr (by assumption) hg4; have hq4 : Gr w1.drew w4 := Gr.tr (by assumption) hg4)
      | (go_at_call 37; go_split_ands; refine (HCM.out _ _ hr4 (by assumption)).mono ?_; rintro ev w5 ⟨rfl, hg5⟩; have hs5 := KeepS.gr (by assumption) hg5; have hq5 : Gr w1.drew w5 := Gr.tr (by assumption) hg5))
  have HS5 := Lib.hid hs5
  have hvq5 := HVQ.out.gr ((Gr.drew (Gr.rf w1) 1).tr hq5)
  have HVQ5 := Lib.hid hvq5
  have hlq : lq = 0 := by have h1 := (digs_len0 q).2 HQ0.out; obtain ⟨x, c, h2⟩ := rn_len hvq5; injection h2 with _ h2; omega
  have hb1 : decide (0 < (lq : Int)) = false := decide_eq_false (by omega)
  have hb1n : decide (0 < lq) = false := decide_eq_false (by omega)
  clear hlq
  obtain ⟨_, c0, c1, c2⟩ := HAL.out _ HS5.out
  clear hs3 hs4 hs5 hq3 hq4 hq5 hg3 hg4 hg5 hr3 hr4 hvq5 HCM HMU HALG
  go_wp2_with fail
  have HR7 := HVQ5
  have HS7 := HS5
  have hin := rInt_calls sb _ q _ HR7.out
  rw [← HDZ.out] at hin
  have HIN := Lib.hid hin
  clear hin
  refine HIN.out.mono ?_
  rintro ev w8 ⟨rfl, hg8⟩
  have HR8 := Lib.hid (HR7.out.gr hg8)
  have HS8 := Lib.hid (KeepS.gr HS7.out hg8)
  obtain ⟨f0, u0, z0, k0⟩ := HS8.out.2.2.2.2 0 (by decide)
  obtain ⟨f1, u1, z1, k1⟩ := HS8.out.2.2.2.2 1 (by decide)
  have HE := Lib.hid (fun x y => two_set w8 (w.heap.size + 1) x y _ _ z0 z1 k0 k1)
  clear hg8
  go_wp2
  (try simp only [Exit.inBlock, Exit.then])
  refine bodyPost_ret (ret_near _ _ (HE.out _ _).1 _ rfl) rfl ?_
  exact ⟨⟨_, rfl, show RN _ _ _ from (HE.out _ _).2.1 _ _ HR8.out⟩, (HE.out _ _).2.2 w HS8.out.1 (by omega)⟩
set_option maxRecDepth 100000 in
set_option maxHeartbeats 8000000 in
theorem near_2eqq0 (sb : Bool) (vx vy : Value) (a b : Nat) (w : World) (hx : RN w vx a) (hy : RN w vy b) (k : Nat) (ha : a < Dg.D ^ k) (hb : b < Dg.D ^ k) (hk : k ≤ 400) (hb0 : 0 < b) (hc : a % b + a % b = b) (hq : a / b ≠ 0) (ho : a / b % 2 = 0) :
    Calls Tryz.prog 23 #[.agg #[.bool sb, vx, vy], .int .i64 2] w fun e w' => (∃ v, e = .returned (.agg #[.bool (sb && decide (0 < a / b)), v]) ∧ RN w' v (a / b)) ∧ Gr w w' := by
  obtain ⟨ax, lx, cx, rfl⟩ := rn_sl hx
  obtain ⟨ay, ly, cy, rfl⟩ := rn_sl hy
  have h1 := heap_alloc_new w (.cells #[.bool sb, .slice ax lx cx, .slice ay ly cy] 29)
  have h3 := heap_alloc_new (w.alloc (.cells #[.bool sb, .slice ax lx cx, .slice ay ly cy] 29)) (.cells #[.bool false, .slice none 0 0] 27)
  rw [size_al] at h3
  have g1 : Gr w (w.alloc (.cells #[.bool sb, .slice ax lx cx, .slice ay ly cy] 29)) := (Gr.rf w).alloc (Nat.le_refl _) _
  have g2 : Gr (w.alloc (.cells #[.bool sb, .slice ax lx cx, .slice ay ly cy] 29)) ((w.alloc (.cells #[.bool sb, .slice ax lx cx, .slice ay ly cy] 29)).alloc (.cells #[.bool false, .slice none 0 0] 27)) := (Gr.rf _).alloc (Nat.le_refl _) _
  have hsz : ((w.alloc (.cells #[.bool sb, .slice ax lx cx, .slice ay ly cy] 29)).alloc (.cells #[.bool false, .slice none 0 0] 27)).heap.size = w.heap.size + 2 := by rw [size_al, size_al]
  have h1 := g2.heap h1
  have hS : KeepS w (w.heap.size + 1) 2 [(w.heap.size, 0, .bool sb), (w.heap.size, 1, .slice ax lx cx), (w.heap.size, 2, .slice ay ly cy)] [(.slice ax lx cx, a), (.slice ay ly cy, b)] ((w.alloc (.cells #[.bool sb, .slice ax lx cx, .slice ay ly cy] 29)).alloc (.cells #[.bool false, .slice none 0 0] 27)) := by
    refine ⟨g1.tr g2, fun p hp => ?_, fun p hp => ?_, ⟨by omega, by omega⟩, fun j hj => ?_⟩
    · simp only [List.mem_cons, List.not_mem_nil, or_false] at hp
      rcases hp with rfl | rfl
      · exact hx.gr (g1.tr g2)
      · exact hy.gr (g1.tr g2)
    · simp only [List.mem_cons, List.not_mem_nil, or_false] at hp
      rcases hp with rfl | rfl | rfl
      · exact ⟨heap_cell h1 0, by show w.heap.size ≠ _; omega, by show w.heap.size < _; omega⟩
      · exact ⟨heap_cell h1 1, by show w.heap.size ≠ _; omega, by show w.heap.size < _; omega⟩
      · exact ⟨heap_cell h1 2, by show w.heap.size ≠ _; omega, by show w.heap.size < _; omega⟩
    · rcases j with _ | _ | j
      · exact ⟨heap_frz h3 0, _, heap_cell h3 0, fun n h => by cases h⟩
      · exact ⟨heap_frz h3 1, _, heap_cell h3 1, fun n h => by cases h⟩
      · omega
  have HAL : Hid (∀ w', KeepS w (w.heap.size + 1) 2 [(w.heap.size, 0, .bool sb), (w.heap.size, 1, .slice ax lx cx), (w.heap.size, 2, .slice ay ly cy)] [(.slice ax lx cx, a), (.slice ay ly cy, b)] w' → (KeepS w (w.heap.size + 1) 2 [(w.heap.size, 0, .bool sb), (w.heap.size, 1, .slice ax lx cx), (w.heap.size, 2, .slice ay ly cy)] [(.slice ax lx cx, a), (.slice ay ly cy, b)] w' ∧ w'.cell? ⟨w.heap.size, 0, none⟩ = some (.bool sb) ∧ w'.cell? ⟨w.heap.size, 1, none⟩ = some (.slice ax lx cx) ∧ w'.cell? ⟨w.heap.size, 2, none⟩ = some (.slice ay ly cy))) := Lib.hid (fun w' h => ⟨h, h.cell (w.heap.size, 0, .bool sb) (by simp), h.cell (w.heap.size, 1, .slice ax lx cx) (by simp), h.cell (w.heap.size, 2, .slice ay ly cy) (by simp)⟩)
  have HS := Lib.hid hS
  have hqk : a / b < Dg.D ^ k := b_div ha
  have hrk : a % b < Dg.D ^ k := b_mod ha
  have HDV : Hid (∀ w', KeepS w (w.heap.size + 1) 2 [(w.heap.size, 0, .bool sb), (w.heap.size, 1, .slice ax lx cx), (w.heap.size, 2, .slice ay ly cy)] [(.slice ax lx cx, a), (.slice ay ly cy, b)] w' → Calls Tryz.prog 84 #[.slice ax lx cx, .slice ay ly cy] w' fun e w2 => (∃ q r, e = .returned (.tuple #[q, r]) ∧ RN w2 q (a / b) ∧ RN w2 r (a % b)) ∧ Gr w' w2) := Lib.hid (fun w' h => r_div (h.rn (.slice ax lx cx, a) (by simp)) (h.rn (.slice ay ly cy, b) (by simp)) ha hb (by omega) hb0)
  have HO2 : Hid (∀ w', Calls Tryz.prog 27 #[.int .u64 2] w' fun e w2 => (∃ r, e = .returned r ∧ RN w2 r 2) ∧ Gr w' w2) := Lib.hid (fun w' => r_ofU 2 (by decide) w')
  have HO1 : Hid (∀ w', Calls Tryz.prog 27 #[.int .u64 1] w' fun e w2 => (∃ r, e = .returned r ∧ RN w2 r 1) ∧ Gr w' w2) := Lib.hid (fun w' => r_ofU 1 (by decide) w')
  have HBB := Lib.hid (And.intro hqk hrk)
  have HBD := Lib.hid (And.intro hb hk)
  have HCC := Lib.hid hc
  have HQ0 := Lib.hid hq
  have HO := Lib.hid ho
  generalize hqe : a / b = q at *
  generalize hre : a % b = r at *
  clear hx hy h1 h3 g1 g2 hsz hS ha hb hb0 hqk hrk hqe hre hc hk hq ho
  obtain ⟨dz, hdz⟩ : ∃ dz, dz = decide (0 < q) := ⟨_, rfl⟩
  have HDZ := Lib.hid hdz
  rw [← hdz]
  clear hdz
  go_enter Tryz.func23, Tryz.ntmps23
  obtain ⟨_, c0, c1, c2⟩ := HAL.out _ HS.out
  go_wp2_with fail
  generalize (w.alloc (.cells #[.bool sb, .slice ax lx cx, .slice ay ly cy] 29)).alloc (.cells #[.bool false, .slice none 0 0] 27) = wz at *
  refine (HDV.out _ HS.out).mono ?_
  rintro ev w1 ⟨⟨vq, vr, rfl, hvq, hvr⟩, hg1⟩
  obtain ⟨aq, lq, cq, rfl⟩ := rn_sl hvq
  obtain ⟨ar, lr, cr, rfl⟩ := rn_sl hvr
  have HVQ := Lib.hid hvq
  have HVR := Lib.hid hvr
  have HS1 := Lib.hid (KeepS.gr HS.out hg1)
  have HSD := Lib.hid (KeepS.gr HS1.out (Gr.drew (Gr.rf _) 1))
  have HVRD := Lib.hid (HVR.out.gr (Gr.drew (Gr.rf w1) 1))
  have HCM : Hid (∀ w' x, RN w' x (r * 2) → KeepS w (w.heap.size + 1) 2 [(w.heap.size, 0, .bool sb), (w.heap.size, 1, .slice ax lx cx), (w.heap.size, 2, .slice ay ly cy)] [(.slice ax lx cx, a), (.slice ay ly cy, b)] w' → Calls Tryz.prog 37 #[x, .slice ay ly cy] w' fun e w2 => e = .returned (.int .i64 (0)) ∧ Gr w' w2) := Lib.hid (fun w' x h hs => r_cmp (k := k + 1) h (hs.rn (.slice ay ly cy, b) (by simp)) (b_mul HBB.out.2 (show 2 < Dg.D ^ 1 by decide) rfl) (b_up HBD.out.1 (by omega)) (by have := HBD.out.2; omega) (by rw [show r * 2 = b by have := HCC.out; omega]; exact cmpN_eq b))
  have HMU : Hid (∀ w' x, RN w' x 2 → Gr w1.drew w' → Calls Tryz.prog 80 #[.slice ar lr cr, x] w' fun e w2 => (∃ v, e = .returned v ∧ RN w2 v (r * 2)) ∧ Gr w' w2) := Lib.hid (fun w' x h hg => r_mul (k := k + 1) (HVRD.out.gr hg) h (b_up HBB.out.2 (by omega)) (b_up (show 2 < Dg.D ^ 1 by decide) (by omega)) (by have := HBD.out.2; omega))
  clear hvq hvr hg1 c0 c1 c2
  have HALG : Hid (∀ w', KeepS w (w.heap.size + 1) 2 [(w.heap.size, 0, .bool sb), (w.heap.size, 1, .slice ax lx cx), (w.heap.size, 2, .slice ay ly cy)] [(.slice ax lx cx, a), (.slice ay ly cy, b)] w' → Gr w1.drew w' → ((KeepS w (w.heap.size + 1) 2 [(w.heap.size, 0, .bool sb), (w.heap.size, 1, .slice ax lx cx), (w.heap.size, 2, .slice ay ly cy)] [(.slice ax lx cx, a), (.slice ay ly cy, b)] w' ∧ Gr w1.drew w') ∧ w'.cell? ⟨w.heap.size, 0, none⟩ = some (.bool sb) ∧ w'.cell? ⟨w.heap.size, 1, none⟩ = some (.slice ax lx cx) ∧ w'.cell? ⟨w.heap.size, 2, none⟩ = some (.slice ay ly cy))) := Lib.hid (fun w' h hg => ⟨⟨h, hg⟩, (HAL.out w' h).2⟩)
  go_wp2_with fail
  go_region_held3 (fun w' => (KeepS w (w.heap.size + 1) 2 [(w.heap.size, 0, .bool sb), (w.heap.size, 1, .slice ax lx cx), (w.heap.size, 2, .slice ay ly cy)] [(.slice ax lx cx, a), (.slice ay ly cy, b)] w' ∧ Gr w1.drew w') ∧ w'.cell? ⟨w.heap.size, 0, none⟩ = some (.bool sb) ∧ w'.cell? ⟨w.heap.size, 1, none⟩ = some (.slice ax lx cx) ∧ w'.cell? ⟨w.heap.size, 2, none⟩ = some (.slice ay ly cy))
    (first | exact HALG.out _ HSD.out (Gr.rf _) | exact HALG.out _ hs3 hq3 | exact HALG.out _ hs4 hq4 | exact HALG.out _ hs5 hq5 | fail)
    (first
      | (go_at_call 27; go_split_ands; refine (HO2.out _).mono ?_; rintro ev w3 ⟨⟨r3, rfl, hr3⟩, hg3⟩; have hs3 := KeepS.gr (by assumption) hg3; have hq3 : Gr w1.drew w3 := Gr.tr (by assumption) hg3)
      | (go_at_call 80; go_split_ands; refine (HMU.out _ _ hr3 (by assumption)).mono ?_; rintro ev w4 ⟨⟨r4, rfl, hr4⟩, hg4⟩; have hs4 := KeepS.gr (by assumption) hg4; have hq4 : Gr w1.drew w4 := Gr.tr (by assumption) hg4)
      | (go_at_call 37; go_split_ands; refine (HCM.out _ _ hr4 (by assumption)).mono ?_; rintro ev w5 ⟨rfl, hg5⟩; have hs5 := KeepS.gr (by assumption) hg5; have hq5 : Gr w1.drew w5 := Gr.tr (by assumption) hg5))
  have HS5 := Lib.hid hs5
  have hvq5 := HVQ.out.gr ((Gr.drew (Gr.rf w1) 1).tr hq5)
  have HVQ5 := Lib.hid hvq5
  obtain ⟨hlq, hlc, gq, oq, rfl, hgl, hcl⟩ := rn_first hvq5 (Nat.pos_of_ne_zero HQ0.out)
  have hb1 : decide (0 < (lq : Int)) = true := decide_eq_true (by omega)
  have hb1n : decide (0 < lq) = true := decide_eq_true hlq
  have hlqi : (0 : Int) < (lq : Int) := by omega
  obtain ⟨ob, hob, hobn⟩ : ∃ ob : Bool, (((q % Dg.D : Nat) : Int) % 2 == 1) = ob ∧ (q % 2 = 1 ↔ ob = true) := ⟨_, rfl, by rw [← dig_even q]; simp; omega⟩
  generalize q % Dg.D = dq at *
  have HOB := Lib.hid hobn
  clear hobn
  have hoe : ob = false := by cases ob; rfl; exact absurd (HOB.out.2 rfl) (by have := HO.out; omega)
  subst hoe
  obtain ⟨_, c0, c1, c2⟩ := HAL.out _ HS5.out
  clear hs3 hs4 hs5 hq3 hq4 hq5 hg3 hg4 hg5 hr3 hr4 hvq5 HCM HMU HALG
  go_wp2_with fail
  have HR7 := HVQ5
  have HS7 := HS5
  have hin := rInt_calls sb _ q _ HR7.out
  rw [← HDZ.out] at hin
  have HIN := Lib.hid hin
  clear hin
  refine HIN.out.mono ?_
  rintro ev w8 ⟨rfl, hg8⟩
  have HR8 := Lib.hid (HR7.out.gr hg8)
  have HS8 := Lib.hid (KeepS.gr HS7.out hg8)
  obtain ⟨f0, u0, z0, k0⟩ := HS8.out.2.2.2.2 0 (by decide)
  obtain ⟨f1, u1, z1, k1⟩ := HS8.out.2.2.2.2 1 (by decide)
  have HE := Lib.hid (fun x y => two_set w8 (w.heap.size + 1) x y _ _ z0 z1 k0 k1)
  clear hg8
  go_wp2
  (try simp only [Exit.inBlock, Exit.then])
  refine bodyPost_ret (ret_near _ _ (HE.out _ _).1 _ rfl) rfl ?_
  exact ⟨⟨_, rfl, show RN _ _ _ from (HE.out _ _).2.1 _ _ HR8.out⟩, (HE.out _ _).2.2 w HS8.out.1 (by omega)⟩
set_option maxRecDepth 100000 in
set_option maxHeartbeats 8000000 in
theorem near_2eqq1 (sb : Bool) (vx vy : Value) (a b : Nat) (w : World) (hx : RN w vx a) (hy : RN w vy b) (k : Nat) (ha : a < Dg.D ^ k) (hb : b < Dg.D ^ k) (hk : k ≤ 400) (hb0 : 0 < b) (hc : a % b + a % b = b) (hq : a / b ≠ 0) (ho : a / b % 2 = 1) :
    Calls Tryz.prog 23 #[.agg #[.bool sb, vx, vy], .int .i64 2] w fun e w' => (∃ v, e = .returned (.agg #[.bool (sb && decide (0 < a / b + 1)), v]) ∧ RN w' v (a / b + 1)) ∧ Gr w w' := by
  obtain ⟨ax, lx, cx, rfl⟩ := rn_sl hx
  obtain ⟨ay, ly, cy, rfl⟩ := rn_sl hy
  have h1 := heap_alloc_new w (.cells #[.bool sb, .slice ax lx cx, .slice ay ly cy] 29)
  have h3 := heap_alloc_new (w.alloc (.cells #[.bool sb, .slice ax lx cx, .slice ay ly cy] 29)) (.cells #[.bool false, .slice none 0 0] 27)
  rw [size_al] at h3
  have g1 : Gr w (w.alloc (.cells #[.bool sb, .slice ax lx cx, .slice ay ly cy] 29)) := (Gr.rf w).alloc (Nat.le_refl _) _
  have g2 : Gr (w.alloc (.cells #[.bool sb, .slice ax lx cx, .slice ay ly cy] 29)) ((w.alloc (.cells #[.bool sb, .slice ax lx cx, .slice ay ly cy] 29)).alloc (.cells #[.bool false, .slice none 0 0] 27)) := (Gr.rf _).alloc (Nat.le_refl _) _
  have hsz : ((w.alloc (.cells #[.bool sb, .slice ax lx cx, .slice ay ly cy] 29)).alloc (.cells #[.bool false, .slice none 0 0] 27)).heap.size = w.heap.size + 2 := by rw [size_al, size_al]
  have h1 := g2.heap h1
  have hS : KeepS w (w.heap.size + 1) 2 [(w.heap.size, 0, .bool sb), (w.heap.size, 1, .slice ax lx cx), (w.heap.size, 2, .slice ay ly cy)] [(.slice ax lx cx, a), (.slice ay ly cy, b)] ((w.alloc (.cells #[.bool sb, .slice ax lx cx, .slice ay ly cy] 29)).alloc (.cells #[.bool false, .slice none 0 0] 27)) := by
    refine ⟨g1.tr g2, fun p hp => ?_, fun p hp => ?_, ⟨by omega, by omega⟩, fun j hj => ?_⟩
    · simp only [List.mem_cons, List.not_mem_nil, or_false] at hp
      rcases hp with rfl | rfl
      · exact hx.gr (g1.tr g2)
      · exact hy.gr (g1.tr g2)
    · simp only [List.mem_cons, List.not_mem_nil, or_false] at hp
      rcases hp with rfl | rfl | rfl
      · exact ⟨heap_cell h1 0, by show w.heap.size ≠ _; omega, by show w.heap.size < _; omega⟩
      · exact ⟨heap_cell h1 1, by show w.heap.size ≠ _; omega, by show w.heap.size < _; omega⟩
      · exact ⟨heap_cell h1 2, by show w.heap.size ≠ _; omega, by show w.heap.size < _; omega⟩
    · rcases j with _ | _ | j
      · exact ⟨heap_frz h3 0, _, heap_cell h3 0, fun n h => by cases h⟩
      · exact ⟨heap_frz h3 1, _, heap_cell h3 1, fun n h => by cases h⟩
      · omega
  have HAL : Hid (∀ w', KeepS w (w.heap.size + 1) 2 [(w.heap.size, 0, .bool sb), (w.heap.size, 1, .slice ax lx cx), (w.heap.size, 2, .slice ay ly cy)] [(.slice ax lx cx, a), (.slice ay ly cy, b)] w' → (KeepS w (w.heap.size + 1) 2 [(w.heap.size, 0, .bool sb), (w.heap.size, 1, .slice ax lx cx), (w.heap.size, 2, .slice ay ly cy)] [(.slice ax lx cx, a), (.slice ay ly cy, b)] w' ∧ w'.cell? ⟨w.heap.size, 0, none⟩ = some (.bool sb) ∧ w'.cell? ⟨w.heap.size, 1, none⟩ = some (.slice ax lx cx) ∧ w'.cell? ⟨w.heap.size, 2, none⟩ = some (.slice ay ly cy))) := Lib.hid (fun w' h => ⟨h, h.cell (w.heap.size, 0, .bool sb) (by simp), h.cell (w.heap.size, 1, .slice ax lx cx) (by simp), h.cell (w.heap.size, 2, .slice ay ly cy) (by simp)⟩)
  have HS := Lib.hid hS
  have hqk : a / b < Dg.D ^ k := b_div ha
  have hrk : a % b < Dg.D ^ k := b_mod ha
  have HDV : Hid (∀ w', KeepS w (w.heap.size + 1) 2 [(w.heap.size, 0, .bool sb), (w.heap.size, 1, .slice ax lx cx), (w.heap.size, 2, .slice ay ly cy)] [(.slice ax lx cx, a), (.slice ay ly cy, b)] w' → Calls Tryz.prog 84 #[.slice ax lx cx, .slice ay ly cy] w' fun e w2 => (∃ q r, e = .returned (.tuple #[q, r]) ∧ RN w2 q (a / b) ∧ RN w2 r (a % b)) ∧ Gr w' w2) := Lib.hid (fun w' h => r_div (h.rn (.slice ax lx cx, a) (by simp)) (h.rn (.slice ay ly cy, b) (by simp)) ha hb (by omega) hb0)
  have HO2 : Hid (∀ w', Calls Tryz.prog 27 #[.int .u64 2] w' fun e w2 => (∃ r, e = .returned r ∧ RN w2 r 2) ∧ Gr w' w2) := Lib.hid (fun w' => r_ofU 2 (by decide) w')
  have HO1 : Hid (∀ w', Calls Tryz.prog 27 #[.int .u64 1] w' fun e w2 => (∃ r, e = .returned r ∧ RN w2 r 1) ∧ Gr w' w2) := Lib.hid (fun w' => r_ofU 1 (by decide) w')
  have HBB := Lib.hid (And.intro hqk hrk)
  have HBD := Lib.hid (And.intro hb hk)
  have HCC := Lib.hid hc
  have HQ0 := Lib.hid hq
  have HO := Lib.hid ho
  generalize hqe : a / b = q at *
  generalize hre : a % b = r at *
  clear hx hy h1 h3 g1 g2 hsz hS ha hb hb0 hqk hrk hqe hre hc hk hq ho
  obtain ⟨dz, hdz⟩ : ∃ dz, dz = decide (0 < q + 1) := ⟨_, rfl⟩
  have HDZ := Lib.hid hdz
  rw [← hdz]
  clear hdz
  go_enter Tryz.func23, Tryz.ntmps23
  obtain ⟨_, c0, c1, c2⟩ := HAL.out _ HS.out
  go_wp2_with fail
  generalize (w.alloc (.cells #[.bool sb, .slice ax lx cx, .slice ay ly cy] 29)).alloc (.cells #[.bool false, .slice none 0 0] 27) = wz at *
  refine (HDV.out _ HS.out).mono ?_
  rintro ev w1 ⟨⟨vq, vr, rfl, hvq, hvr⟩, hg1⟩
  obtain ⟨aq, lq, cq, rfl⟩ := rn_sl hvq
  obtain ⟨ar, lr, cr, rfl⟩ := rn_sl hvr
  have HVQ := Lib.hid hvq
  have HVR := Lib.hid hvr
  have HS1 := Lib.hid (KeepS.gr HS.out hg1)
  have HSD := Lib.hid (KeepS.gr HS1.out (Gr.drew (Gr.rf _) 1))
  have HVRD := Lib.hid (HVR.out.gr (Gr.drew (Gr.rf w1) 1))
  have HCM : Hid (∀ w' x, RN w' x (r * 2) → KeepS w (w.heap.size + 1) 2 [(w.heap.size, 0, .bool sb), (w.heap.size, 1, .slice ax lx cx), (w.heap.size, 2, .slice ay ly cy)] [(.slice ax lx cx, a), (.slice ay ly cy, b)] w' → Calls Tryz.prog 37 #[x, .slice ay ly cy] w' fun e w2 => e = .returned (.int .i64 (0)) ∧ Gr w' w2) := Lib.hid (fun w' x h hs => r_cmp (k := k + 1) h (hs.rn (.slice ay ly cy, b) (by simp)) (b_mul HBB.out.2 (show 2 < Dg.D ^ 1 by decide) rfl) (b_up HBD.out.1 (by omega)) (by have := HBD.out.2; omega) (by rw [show r * 2 = b by have := HCC.out; omega]; exact cmpN_eq b))
  have HMU : Hid (∀ w' x, RN w' x 2 → Gr w1.drew w' → Calls Tryz.prog 80 #[.slice ar lr cr, x] w' fun e w2 => (∃ v, e = .returned v ∧ RN w2 v (r * 2)) ∧ Gr w' w2) := Lib.hid (fun w' x h hg => r_mul (k := k + 1) (HVRD.out.gr hg) h (b_up HBB.out.2 (by omega)) (b_up (show 2 < Dg.D ^ 1 by decide) (by omega)) (by have := HBD.out.2; omega))
  clear hvq hvr hg1 c0 c1 c2
  have HALG : Hid (∀ w', KeepS w (w.heap.size + 1) 2 [(w.heap.size, 0, .bool sb), (w.heap.size, 1, .slice ax lx cx), (w.heap.size, 2, .slice ay ly cy)] [(.slice ax lx cx, a), (.slice ay ly cy, b)] w' → Gr w1.drew w' → ((KeepS w (w.heap.size + 1) 2 [(w.heap.size, 0, .bool sb), (w.heap.size, 1, .slice ax lx cx), (w.heap.size, 2, .slice ay ly cy)] [(.slice ax lx cx, a), (.slice ay ly cy, b)] w' ∧ Gr w1.drew w') ∧ w'.cell? ⟨w.heap.size, 0, none⟩ = some (.bool sb) ∧ w'.cell? ⟨w.heap.size, 1, none⟩ = some (.slice ax lx cx) ∧ w'.cell? ⟨w.heap.size, 2, none⟩ = some (.slice ay ly cy))) := Lib.hid (fun w' h hg => ⟨⟨h, hg⟩, (HAL.out w' h).2⟩)
  go_wp2_with fail
  go_region_held3 (fun w' => (KeepS w (w.heap.size + 1) 2 [(w.heap.size, 0, .bool sb), (w.heap.size, 1, .slice ax lx cx), (w.heap.size, 2, .slice ay ly cy)] [(.slice ax lx cx, a), (.slice ay ly cy, b)] w' ∧ Gr w1.drew w') ∧ w'.cell? ⟨w.heap.size, 0, none⟩ = some (.bool sb) ∧ w'.cell? ⟨w.heap.size, 1, none⟩ = some (.slice ax lx cx) ∧ w'.cell? ⟨w.heap.size, 2, none⟩ = some (.slice ay ly cy))
    (first | exact HALG.out _ HSD.out (Gr.rf _) | exact HALG.out _ hs3 hq3 | exact HALG.out _ hs4 hq4 | exact HALG.out _ hs5 hq5 | fail)
    (first
      | (go_at_call 27; go_split_ands; refine (HO2.out _).mono ?_; rintro ev w3 ⟨⟨r3, rfl, hr3⟩, hg3⟩; have hs3 := KeepS.gr (by assumption) hg3; have hq3 : Gr w1.drew w3 := Gr.tr (by assumption) hg3)
      | (go_at_call 80; go_split_ands; refine (HMU.out _ _ hr3 (by assumption)).mono ?_; rintro ev w4 ⟨⟨r4, rfl, hr4⟩, hg4⟩; have hs4 := KeepS.gr (by assumption) hg4; have hq4 : Gr w1.drew w4 := Gr.tr (by assumption) hg4)
      | (go_at_call 37; go_split_ands; refine (HCM.out _ _ hr4 (by assumption)).mono ?_; rintro ev w5 ⟨rfl, hg5⟩; have hs5 := KeepS.gr (by assumption) hg5; have hq5 : Gr w1.drew w5 := Gr.tr (by assumption) hg5))
  have HS5 := Lib.hid hs5
  have hvq5 := HVQ.out.gr ((Gr.drew (Gr.rf w1) 1).tr hq5)
  have HVQ5 := Lib.hid hvq5
  obtain ⟨hlq, hlc, gq, oq, rfl, hgl, hcl⟩ := rn_first hvq5 (Nat.pos_of_ne_zero HQ0.out)
  have hb1 : decide (0 < (lq : Int)) = true := decide_eq_true (by omega)
  have hb1n : decide (0 < lq) = true := decide_eq_true hlq
  have hlqi : (0 : Int) < (lq : Int) := by omega
  obtain ⟨ob, hob, hobn⟩ : ∃ ob : Bool, (((q % Dg.D : Nat) : Int) % 2 == 1) = ob ∧ (q % 2 = 1 ↔ ob = true) := ⟨_, rfl, by rw [← dig_even q]; simp; omega⟩
  generalize q % Dg.D = dq at *
  have HOB := Lib.hid hobn
  clear hobn
  have hoe : ob = true := HOB.out.1 HO.out
  subst hoe
  obtain ⟨_, c0, c1, c2⟩ := HAL.out _ HS5.out
  clear hs3 hs4 hs5 hq3 hq4 hq5 hg3 hg4 hg5 hr3 hr4 hvq5 HCM HMU HALG
  go_wp2_with fail
  refine (HO1.out _).mono ?_
  rintro ev w6 ⟨⟨r6, rfl, hr6⟩, hg6⟩
  have HG6 := Lib.hid hg6
  have HAD := Lib.hid (r_add (k := k + 1) (HVQ5.out.gr hg6) hr6 (b_up HBB.out.1 (by omega)) (b_one (by omega)) (by have := HBD.out.2; omega))
  clear hr6 hg6
  go_wp2_with fail
  refine HAD.out.mono ?_
  rintro ev w7 ⟨⟨r7, rfl, hr7⟩, hg7⟩
  obtain ⟨a7, l7, c7, rfl⟩ := rn_sl hr7
  have HR7 := Lib.hid hr7
  have HS7 := Lib.hid (KeepS.gr HS5.out (HG6.out.tr hg7))
  obtain ⟨_, c0, c1, c2⟩ := HAL.out _ HS7.out
  clear hr7 hg7
  have hin := rInt_calls sb (.slice a7 l7 c7) (q + 1) w7 HR7.out
  rw [← HDZ.out] at hin
  have HIN := Lib.hid hin
  clear hin
  go_wp2_with fail
  refine HIN.out.mono ?_
  rintro ev w8 ⟨rfl, hg8⟩
  have HR8 := Lib.hid (HR7.out.gr hg8)
  have HS8 := Lib.hid (KeepS.gr HS7.out hg8)
  obtain ⟨f0, u0, z0, k0⟩ := HS8.out.2.2.2.2 0 (by decide)
  obtain ⟨f1, u1, z1, k1⟩ := HS8.out.2.2.2.2 1 (by decide)
  have HE := Lib.hid (fun x y => two_set w8 (w.heap.size + 1) x y _ _ z0 z1 k0 k1)
  clear hg8
  go_wp2
  (try simp only [Exit.inBlock, Exit.then])
  refine bodyPost_ret (ret_near _ _ (HE.out _ _).1 _ rfl) rfl ?_
  exact ⟨⟨_, rfl, show RN _ _ _ from (HE.out _ _).2.1 _ _ HR8.out⟩, (HE.out _ _).2.2 w HS8.out.1 (by omega)⟩
set_option maxRecDepth 100000 in
set_option maxHeartbeats 8000000 in
theorem near_2gtz (sb : Bool) (vx vy : Value) (a b : Nat) (w : World) (hx : RN w vx a) (hy : RN w vy b) (k : Nat) (ha : a < Dg.D ^ k) (hb : b < Dg.D ^ k) (hk : k ≤ 400) (hb0 : 0 < b) (hc : a % b + a % b > b) (hq : a / b = 0) :
    Calls Tryz.prog 23 #[.agg #[.bool sb, vx, vy], .int .i64 2] w fun e w' => (∃ v, e = .returned (.agg #[.bool (sb && decide (0 < a / b + 1)), v]) ∧ RN w' v (a / b + 1)) ∧ Gr w w' := by
  obtain ⟨ax, lx, cx, rfl⟩ := rn_sl hx
  obtain ⟨ay, ly, cy, rfl⟩ := rn_sl hy
  have h1 := heap_alloc_new w (.cells #[.bool sb, .slice ax lx cx, .slice ay ly cy] 29)
  have h3 := heap_alloc_new (w.alloc (.cells #[.bool sb, .slice ax lx cx, .slice ay ly cy] 29)) (.cells #[.bool false, .slice none 0 0] 27)
  rw [size_al] at h3
  have g1 : Gr w (w.alloc (.cells #[.bool sb, .slice ax lx cx, .slice ay ly cy] 29)) := (Gr.rf w).alloc (Nat.le_refl _) _
  have g2 : Gr (w.alloc (.cells #[.bool sb, .slice ax lx cx, .slice ay ly cy] 29)) ((w.alloc (.cells #[.bool sb, .slice ax lx cx, .slice ay ly cy] 29)).alloc (.cells #[.bool false, .slice none 0 0] 27)) := (Gr.rf _).alloc (Nat.le_refl _) _
  have hsz : ((w.alloc (.cells #[.bool sb, .slice ax lx cx, .slice ay ly cy] 29)).alloc (.cells #[.bool false, .slice none 0 0] 27)).heap.size = w.heap.size + 2 := by rw [size_al, size_al]
  have h1 := g2.heap h1
  have hS : KeepS w (w.heap.size + 1) 2 [(w.heap.size, 0, .bool sb), (w.heap.size, 1, .slice ax lx cx), (w.heap.size, 2, .slice ay ly cy)] [(.slice ax lx cx, a), (.slice ay ly cy, b)] ((w.alloc (.cells #[.bool sb, .slice ax lx cx, .slice ay ly cy] 29)).alloc (.cells #[.bool false, .slice none 0 0] 27)) := by
    refine ⟨g1.tr g2, fun p hp => ?_, fun p hp => ?_, ⟨by omega, by omega⟩, fun j hj => ?_⟩
    · simp only [List.mem_cons, List.not_mem_nil, or_false] at hp
      rcases hp with rfl | rfl
      · exact hx.gr (g1.tr g2)
      · exact hy.gr (g1.tr g2)
    · simp only [List.mem_cons, List.not_mem_nil, or_false] at hp
      rcases hp with rfl | rfl | rfl
      · exact ⟨heap_cell h1 0, by show w.heap.size ≠ _; omega, by show w.heap.size < _; omega⟩
      · exact ⟨heap_cell h1 1, by show w.heap.size ≠ _; omega, by show w.heap.size < _; omega⟩
      · exact ⟨heap_cell h1 2, by show w.heap.size ≠ _; omega, by show w.heap.size < _; omega⟩
    · rcases j with _ | _ | j
      · exact ⟨heap_frz h3 0, _, heap_cell h3 0, fun n h => by cases h⟩
      · exact ⟨heap_frz h3 1, _, heap_cell h3 1, fun n h => by cases h⟩
      · omega
  have HAL : Hid (∀ w', KeepS w (w.heap.size + 1) 2 [(w.heap.size, 0, .bool sb), (w.heap.size, 1, .slice ax lx cx), (w.heap.size, 2, .slice ay ly cy)] [(.slice ax lx cx, a), (.slice ay ly cy, b)] w' → (KeepS w (w.heap.size + 1) 2 [(w.heap.size, 0, .bool sb), (w.heap.size, 1, .slice ax lx cx), (w.heap.size, 2, .slice ay ly cy)] [(.slice ax lx cx, a), (.slice ay ly cy, b)] w' ∧ w'.cell? ⟨w.heap.size, 0, none⟩ = some (.bool sb) ∧ w'.cell? ⟨w.heap.size, 1, none⟩ = some (.slice ax lx cx) ∧ w'.cell? ⟨w.heap.size, 2, none⟩ = some (.slice ay ly cy))) := Lib.hid (fun w' h => ⟨h, h.cell (w.heap.size, 0, .bool sb) (by simp), h.cell (w.heap.size, 1, .slice ax lx cx) (by simp), h.cell (w.heap.size, 2, .slice ay ly cy) (by simp)⟩)
  have HS := Lib.hid hS
  have hqk : a / b < Dg.D ^ k := b_div ha
  have hrk : a % b < Dg.D ^ k := b_mod ha
  have HDV : Hid (∀ w', KeepS w (w.heap.size + 1) 2 [(w.heap.size, 0, .bool sb), (w.heap.size, 1, .slice ax lx cx), (w.heap.size, 2, .slice ay ly cy)] [(.slice ax lx cx, a), (.slice ay ly cy, b)] w' → Calls Tryz.prog 84 #[.slice ax lx cx, .slice ay ly cy] w' fun e w2 => (∃ q r, e = .returned (.tuple #[q, r]) ∧ RN w2 q (a / b) ∧ RN w2 r (a % b)) ∧ Gr w' w2) := Lib.hid (fun w' h => r_div (h.rn (.slice ax lx cx, a) (by simp)) (h.rn (.slice ay ly cy, b) (by simp)) ha hb (by omega) hb0)
  have HO2 : Hid (∀ w', Calls Tryz.prog 27 #[.int .u64 2] w' fun e w2 => (∃ r, e = .returned r ∧ RN w2 r 2) ∧ Gr w' w2) := Lib.hid (fun w' => r_ofU 2 (by decide) w')
  have HO1 : Hid (∀ w', Calls Tryz.prog 27 #[.int .u64 1] w' fun e w2 => (∃ r, e = .returned r ∧ RN w2 r 1) ∧ Gr w' w2) := Lib.hid (fun w' => r_ofU 1 (by decide) w')
  have HBB := Lib.hid (And.intro hqk hrk)
  have HBD := Lib.hid (And.intro hb hk)
  have HCC := Lib.hid hc
  have HQ0 := Lib.hid hq
  generalize hqe : a / b = q at *
  generalize hre : a % b = r at *
  clear hx hy h1 h3 g1 g2 hsz hS ha hb hb0 hqk hrk hqe hre hc hk hq
  obtain ⟨dz, hdz⟩ : ∃ dz, dz = decide (0 < q + 1) := ⟨_, rfl⟩
  have HDZ := Lib.hid hdz
  rw [← hdz]
  clear hdz
  go_enter Tryz.func23, Tryz.ntmps23
  obtain ⟨_, c0, c1, c2⟩ := HAL.out _ HS.out
  go_wp2_with fail
  generalize (w.alloc (.cells #[.bool sb, .slice ax lx cx, .slice ay ly cy] 29)).alloc (.cells #[.bool false, .slice none 0 0] 27) = wz at *
  refine (HDV.out _ HS.out).mono ?_
  rintro ev w1 ⟨⟨vq, vr, rfl, hvq, hvr⟩, hg1⟩
  obtain ⟨aq, lq, cq, rfl⟩ := rn_sl hvq
  obtain ⟨ar, lr, cr, rfl⟩ := rn_sl hvr
  have HVQ := Lib.hid hvq
  have HVR := Lib.hid hvr
  have HS1 := Lib.hid (KeepS.gr HS.out hg1)
  have HSD := Lib.hid (KeepS.gr HS1.out (Gr.drew (Gr.rf _) 1))
  have HVRD := Lib.hid (HVR.out.gr (Gr.drew (Gr.rf w1) 1))
  have HCM : Hid (∀ w' x, RN w' x (r * 2) → KeepS w (w.heap.size + 1) 2 [(w.heap.size, 0, .bool sb), (w.heap.size, 1, .slice ax lx cx), (w.heap.size, 2, .slice ay ly cy)] [(.slice ax lx cx, a), (.slice ay ly cy, b)] w' → Calls Tryz.prog 37 #[x, .slice ay ly cy] w' fun e w2 => e = .returned (.int .i64 (1)) ∧ Gr w' w2) := Lib.hid (fun w' x h hs => r_cmp (k := k + 1) h (hs.rn (.slice ay ly cy, b) (by simp)) (b_mul HBB.out.2 (show 2 < Dg.D ^ 1 by decide) rfl) (b_up HBD.out.1 (by omega)) (by have := HBD.out.2; omega) (cmpN_gt (by have := HCC.out; omega)))
  have HMU : Hid (∀ w' x, RN w' x 2 → Gr w1.drew w' → Calls Tryz.prog 80 #[.slice ar lr cr, x] w' fun e w2 => (∃ v, e = .returned v ∧ RN w2 v (r * 2)) ∧ Gr w' w2) := Lib.hid (fun w' x h hg => r_mul (k := k + 1) (HVRD.out.gr hg) h (b_up HBB.out.2 (by omega)) (b_up (show 2 < Dg.D ^ 1 by decide) (by omega)) (by have := HBD.out.2; omega))
  clear hvq hvr hg1 c0 c1 c2
  have HALG : Hid (∀ w', KeepS w (w.heap.size + 1) 2 [(w.heap.size, 0, .bool sb), (w.heap.size, 1, .slice ax lx cx), (w.heap.size, 2, .slice ay ly cy)] [(.slice ax lx cx, a), (.slice ay ly cy, b)] w' → Gr w1.drew w' → ((KeepS w (w.heap.size + 1) 2 [(w.heap.size, 0, .bool sb), (w.heap.size, 1, .slice ax lx cx), (w.heap.size, 2, .slice ay ly cy)] [(.slice ax lx cx, a), (.slice ay ly cy, b)] w' ∧ Gr w1.drew w') ∧ w'.cell? ⟨w.heap.size, 0, none⟩ = some (.bool sb) ∧ w'.cell? ⟨w.heap.size, 1, none⟩ = some (.slice ax lx cx) ∧ w'.cell? ⟨w.heap.size, 2, none⟩ = some (.slice ay ly cy))) := Lib.hid (fun w' h hg => ⟨⟨h, hg⟩, (HAL.out w' h).2⟩)
  go_wp2_with fail
  go_region_held3 (fun w' => (KeepS w (w.heap.size + 1) 2 [(w.heap.size, 0, .bool sb), (w.heap.size, 1, .slice ax lx cx), (w.heap.size, 2, .slice ay ly cy)] [(.slice ax lx cx, a), (.slice ay ly cy, b)] w' ∧ Gr w1.drew w') ∧ w'.cell? ⟨w.heap.size, 0, none⟩ = some (.bool sb) ∧ w'.cell? ⟨w.heap.size, 1, none⟩ = some (.slice ax lx cx) ∧ w'.cell? ⟨w.heap.size, 2, none⟩ = some (.slice ay ly cy))
    (first | exact HALG.out _ HSD.out (Gr.rf _) | exact HALG.out _ hs3 hq3 | exact HALG.out _ hs4 hq4 | exact HALG.out _ hs5 hq5 | fail)
    (first
      | (go_at_call 27; go_split_ands; refine (HO2.out _).mono ?_; rintro ev w3 ⟨⟨r3, rfl, hr3⟩, hg3⟩; have hs3 := KeepS.gr (by assumption) hg3; have hq3 : Gr w1.drew w3 := Gr.tr (by assumption) hg3)
      | (go_at_call 80; go_split_ands; refine (HMU.out _ _ hr3 (by assumption)).mono ?_; rintro ev w4 ⟨⟨r4, rfl, hr4⟩, hg4⟩; have hs4 := KeepS.gr (by assumption) hg4; have hq4 : Gr w1.drew w4 := Gr.tr (by assumption) hg4)
      | (go_at_call 37; go_split_ands; refine (HCM.out _ _ hr4 (by assumption)).mono ?_; rintro ev w5 ⟨rfl, hg5⟩; have hs5 := KeepS.gr (by assumption) hg5; have hq5 : Gr w1.drew w5 := Gr.tr (by assumption) hg5))
  have HS5 := Lib.hid hs5
  have hvq5 := HVQ.out.gr ((Gr.drew (Gr.rf w1) 1).tr hq5)
  have HVQ5 := Lib.hid hvq5
  have hlq : lq = 0 := by have h1 := (digs_len0 q).2 HQ0.out; obtain ⟨x, c, h2⟩ := rn_len hvq5; injection h2 with _ h2; omega
  have hb1 : decide (0 < (lq : Int)) = false := decide_eq_false (by omega)
  have hb1n : decide (0 < lq) = false := decide_eq_false (by omega)
  clear hlq
  obtain ⟨_, c0, c1, c2⟩ := HAL.out _ HS5.out
  clear hs3 hs4 hs5 hq3 hq4 hq5 hg3 hg4 hg5 hr3 hr4 hvq5 HCM HMU HALG
  go_wp2_with fail
  refine (HO1.out _).mono ?_
  rintro ev w6 ⟨⟨r6, rfl, hr6⟩, hg6⟩
  have HG6 := Lib.hid hg6
  have HAD := Lib.hid (r_add (k := k + 1) (HVQ5.out.gr hg6) hr6 (b_up HBB.out.1 (by omega)) (b_one (by omega)) (by have := HBD.out.2; omega))
  clear hr6 hg6
  go_wp2_with fail
  refine HAD.out.mono ?_
  rintro ev w7 ⟨⟨r7, rfl, hr7⟩, hg7⟩
  obtain ⟨a7, l7, c7, rfl⟩ := rn_sl hr7
  have HR7 := Lib.hid hr7
  have HS7 := Lib.hid (KeepS.gr HS5.out (HG6.out.tr hg7))
  obtain ⟨_, c0, c1, c2⟩ := HAL.out _ HS7.out
  clear hr7 hg7
  have hin := rInt_calls sb (.slice a7 l7 c7) (q + 1) w7 HR7.out
  rw [← HDZ.out] at hin
  have HIN := Lib.hid hin
  clear hin
  go_wp2_with fail
  refine HIN.out.mono ?_
  rintro ev w8 ⟨rfl, hg8⟩
  have HR8 := Lib.hid (HR7.out.gr hg8)
  have HS8 := Lib.hid (KeepS.gr HS7.out hg8)
  obtain ⟨f0, u0, z0, k0⟩ := HS8.out.2.2.2.2 0 (by decide)
  obtain ⟨f1, u1, z1, k1⟩ := HS8.out.2.2.2.2 1 (by decide)
  have HE := Lib.hid (fun x y => two_set w8 (w.heap.size + 1) x y _ _ z0 z1 k0 k1)
  clear hg8
  go_wp2
  (try simp only [Exit.inBlock, Exit.then])
  refine bodyPost_ret (ret_near _ _ (HE.out _ _).1 _ rfl) rfl ?_
  exact ⟨⟨_, rfl, show RN _ _ _ from (HE.out _ _).2.1 _ _ HR8.out⟩, (HE.out _ _).2.2 w HS8.out.1 (by omega)⟩
set_option maxRecDepth 100000 in
set_option maxHeartbeats 8000000 in
theorem near_2gtq (sb : Bool) (vx vy : Value) (a b : Nat) (w : World) (hx : RN w vx a) (hy : RN w vy b) (k : Nat) (ha : a < Dg.D ^ k) (hb : b < Dg.D ^ k) (hk : k ≤ 400) (hb0 : 0 < b) (hc : a % b + a % b > b) (hq : a / b ≠ 0) :
    Calls Tryz.prog 23 #[.agg #[.bool sb, vx, vy], .int .i64 2] w fun e w' => (∃ v, e = .returned (.agg #[.bool (sb && decide (0 < a / b + 1)), v]) ∧ RN w' v (a / b + 1)) ∧ Gr w w' := by
  obtain ⟨ax, lx, cx, rfl⟩ := rn_sl hx
  obtain ⟨ay, ly, cy, rfl⟩ := rn_sl hy
  have h1 := heap_alloc_new w (.cells #[.bool sb, .slice ax lx cx, .slice ay ly cy] 29)
  have h3 := heap_alloc_new (w.alloc (.cells #[.bool sb, .slice ax lx cx, .slice ay ly cy] 29)) (.cells #[.bool false, .slice none 0 0] 27)
  rw [size_al] at h3
  have g1 : Gr w (w.alloc (.cells #[.bool sb, .slice ax lx cx, .slice ay ly cy] 29)) := (Gr.rf w).alloc (Nat.le_refl _) _
  have g2 : Gr (w.alloc (.cells #[.bool sb, .slice ax lx cx, .slice ay ly cy] 29)) ((w.alloc (.cells #[.bool sb, .slice ax lx cx, .slice ay ly cy] 29)).alloc (.cells #[.bool false, .slice none 0 0] 27)) := (Gr.rf _).alloc (Nat.le_refl _) _
  have hsz : ((w.alloc (.cells #[.bool sb, .slice ax lx cx, .slice ay ly cy] 29)).alloc (.cells #[.bool false, .slice none 0 0] 27)).heap.size = w.heap.size + 2 := by rw [size_al, size_al]
  have h1 := g2.heap h1
  have hS : KeepS w (w.heap.size + 1) 2 [(w.heap.size, 0, .bool sb), (w.heap.size, 1, .slice ax lx cx), (w.heap.size, 2, .slice ay ly cy)] [(.slice ax lx cx, a), (.slice ay ly cy, b)] ((w.alloc (.cells #[.bool sb, .slice ax lx cx, .slice ay ly cy] 29)).alloc (.cells #[.bool false, .slice none 0 0] 27)) := by
    refine ⟨g1.tr g2, fun p hp => ?_, fun p hp => ?_, ⟨by omega, by omega⟩, fun j hj => ?_⟩
    · simp only [List.mem_cons, List.not_mem_nil, or_false] at hp
      rcases hp with rfl | rfl
      · exact hx.gr (g1.tr g2)
      · exact hy.gr (g1.tr g2)
    · simp only [List.mem_cons, List.not_mem_nil, or_false] at hp
      rcases hp with rfl | rfl | rfl
      · exact ⟨heap_cell h1 0, by show w.heap.size ≠ _; omega, by show w.heap.size < _; omega⟩
      · exact ⟨heap_cell h1 1, by show w.heap.size ≠ _; omega, by show w.heap.size < _; omega⟩
      · exact ⟨heap_cell h1 2, by show w.heap.size ≠ _; omega, by show w.heap.size < _; omega⟩
    · rcases j with _ | _ | j
      · exact ⟨heap_frz h3 0, _, heap_cell h3 0, fun n h => by cases h⟩
      · exact ⟨heap_frz h3 1, _, heap_cell h3 1, fun n h => by cases h⟩
      · omega
  have HAL : Hid (∀ w', KeepS w (w.heap.size + 1) 2 [(w.heap.size, 0, .bool sb), (w.heap.size, 1, .slice ax lx cx), (w.heap.size, 2, .slice ay ly cy)] [(.slice ax lx cx, a), (.slice ay ly cy, b)] w' → (KeepS w (w.heap.size + 1) 2 [(w.heap.size, 0, .bool sb), (w.heap.size, 1, .slice ax lx cx), (w.heap.size, 2, .slice ay ly cy)] [(.slice ax lx cx, a), (.slice ay ly cy, b)] w' ∧ w'.cell? ⟨w.heap.size, 0, none⟩ = some (.bool sb) ∧ w'.cell? ⟨w.heap.size, 1, none⟩ = some (.slice ax lx cx) ∧ w'.cell? ⟨w.heap.size, 2, none⟩ = some (.slice ay ly cy))) := Lib.hid (fun w' h => ⟨h, h.cell (w.heap.size, 0, .bool sb) (by simp), h.cell (w.heap.size, 1, .slice ax lx cx) (by simp), h.cell (w.heap.size, 2, .slice ay ly cy) (by simp)⟩)
  have HS := Lib.hid hS
  have hqk : a / b < Dg.D ^ k := b_div ha
  have hrk : a % b < Dg.D ^ k := b_mod ha
  have HDV : Hid (∀ w', KeepS w (w.heap.size + 1) 2 [(w.heap.size, 0, .bool sb), (w.heap.size, 1, .slice ax lx cx), (w.heap.size, 2, .slice ay ly cy)] [(.slice ax lx cx, a), (.slice ay ly cy, b)] w' → Calls Tryz.prog 84 #[.slice ax lx cx, .slice ay ly cy] w' fun e w2 => (∃ q r, e = .returned (.tuple #[q, r]) ∧ RN w2 q (a / b) ∧ RN w2 r (a % b)) ∧ Gr w' w2) := Lib.hid (fun w' h => r_div (h.rn (.slice ax lx cx, a) (by simp)) (h.rn (.slice ay ly cy, b) (by simp)) ha hb (by omega) hb0)
  have HO2 : Hid (∀ w', Calls Tryz.prog 27 #[.int .u64 2] w' fun e w2 => (∃ r, e = .returned r ∧ RN w2 r 2) ∧ Gr w' w2) := Lib.hid (fun w' => r_ofU 2 (by decide) w')
  have HO1 : Hid (∀ w', Calls Tryz.prog 27 #[.int .u64 1] w' fun e w2 => (∃ r, e = .returned r ∧ RN w2 r 1) ∧ Gr w' w2) := Lib.hid (fun w' => r_ofU 1 (by decide) w')
  have HBB := Lib.hid (And.intro hqk hrk)
  have HBD := Lib.hid (And.intro hb hk)
  have HCC := Lib.hid hc
  have HQ0 := Lib.hid hq
  generalize hqe : a / b = q at *
  generalize hre : a % b = r at *
  clear hx hy h1 h3 g1 g2 hsz hS ha hb hb0 hqk hrk hqe hre hc hk hq
  obtain ⟨dz, hdz⟩ : ∃ dz, dz = decide (0 < q + 1) := ⟨_, rfl⟩
  have HDZ := Lib.hid hdz
  rw [← hdz]
  clear hdz
  go_enter Tryz.func23, Tryz.ntmps23
  obtain ⟨_, c0, c1, c2⟩ := HAL.out _ HS.out
  go_wp2_with fail
  generalize (w.alloc (.cells #[.bool sb, .slice ax lx cx, .slice ay ly cy] 29)).alloc (.cells #[.bool false, .slice none 0 0] 27) = wz at *
  refine (HDV.out _ HS.out).mono ?_
  rintro ev w1 ⟨⟨vq, vr, rfl, hvq, hvr⟩, hg1⟩
  obtain ⟨aq, lq, cq, rfl⟩ := rn_sl hvq
  obtain ⟨ar, lr, cr, rfl⟩ := rn_sl hvr
  have HVQ := Lib.hid hvq
  have HVR := Lib.hid hvr
  have HS1 := Lib.hid (KeepS.gr HS.out hg1)
  have HSD := Lib.hid (KeepS.gr HS1.out (Gr.drew (Gr.rf _) 1))
  have HVRD := Lib.hid (HVR.out.gr (Gr.drew (Gr.rf w1) 1))
  have HCM : Hid (∀ w' x, RN w' x (r * 2) → KeepS w (w.heap.size + 1) 2 [(w.heap.size, 0, .bool sb), (w.heap.size, 1, .slice ax lx cx), (w.heap.size, 2, .slice ay ly cy)] [(.slice ax lx cx, a), (.slice ay ly cy, b)] w' → Calls Tryz.prog 37 #[x, .slice ay ly cy] w' fun e w2 => e = .returned (.int .i64 (1)) ∧ Gr w' w2) := Lib.hid (fun w' x h hs => r_cmp (k := k + 1) h (hs.rn (.slice ay ly cy, b) (by simp)) (b_mul HBB.out.2 (show 2 < Dg.D ^ 1 by decide) rfl) (b_up HBD.out.1 (by omega)) (by have := HBD.out.2; omega) (cmpN_gt (by have := HCC.out; omega)))
  have HMU : Hid (∀ w' x, RN w' x 2 → Gr w1.drew w' → Calls Tryz.prog 80 #[.slice ar lr cr, x] w' fun e w2 => (∃ v, e = .returned v ∧ RN w2 v (r * 2)) ∧ Gr w' w2) := Lib.hid (fun w' x h hg => r_mul (k := k + 1) (HVRD.out.gr hg) h (b_up HBB.out.2 (by omega)) (b_up (show 2 < Dg.D ^ 1 by decide) (by omega)) (by have := HBD.out.2; omega))
  clear hvq hvr hg1 c0 c1 c2
  have HALG : Hid (∀ w', KeepS w (w.heap.size + 1) 2 [(w.heap.size, 0, .bool sb), (w.heap.size, 1, .slice ax lx cx), (w.heap.size, 2, .slice ay ly cy)] [(.slice ax lx cx, a), (.slice ay ly cy, b)] w' → Gr w1.drew w' → ((KeepS w (w.heap.size + 1) 2 [(w.heap.size, 0, .bool sb), (w.heap.size, 1, .slice ax lx cx), (w.heap.size, 2, .slice ay ly cy)] [(.slice ax lx cx, a), (.slice ay ly cy, b)] w' ∧ Gr w1.drew w') ∧ w'.cell? ⟨w.heap.size, 0, none⟩ = some (.bool sb) ∧ w'.cell? ⟨w.heap.size, 1, none⟩ = some (.slice ax lx cx) ∧ w'.cell? ⟨w.heap.size, 2, none⟩ = some (.slice ay ly cy))) := Lib.hid (fun w' h hg => ⟨⟨h, hg⟩, (HAL.out w' h).2⟩)
  go_wp2_with fail
  go_region_held3 (fun w' => (KeepS w (w.heap.size + 1) 2 [(w.heap.size, 0, .bool sb), (w.heap.size, 1, .slice ax lx cx), (w.heap.size, 2, .slice ay ly cy)] [(.slice ax lx cx, a), (.slice ay ly cy, b)] w' ∧ Gr w1.drew w') ∧ w'.cell? ⟨w.heap.size, 0, none⟩ = some (.bool sb) ∧ w'.cell? ⟨w.heap.size, 1, none⟩ = some (.slice ax lx cx) ∧ w'.cell? ⟨w.heap.size, 2, none⟩ = some (.slice ay ly cy))
    (first | exact HALG.out _ HSD.out (Gr.rf _) | exact HALG.out _ hs3 hq3 | exact HALG.out _ hs4 hq4 | exact HALG.out _ hs5 hq5 | fail)
    (first
      | (go_at_call 27; go_split_ands; refine (HO2.out _).mono ?_; rintro ev w3 ⟨⟨r3, rfl, hr3⟩, hg3⟩; have hs3 := KeepS.gr (by assumption) hg3; have hq3 : Gr w1.drew w3 := Gr.tr (by assumption) hg3)
      | (go_at_call 80; go_split_ands; refine (HMU.out _ _ hr3 (by assumption)).mono ?_; rintro ev w4 ⟨⟨r4, rfl, hr4⟩, hg4⟩; have hs4 := KeepS.gr (by assumption) hg4; have hq4 : Gr w1.drew w4 := Gr.tr (by assumption) hg4)
      | (go_at_call 37; go_split_ands; refine (HCM.out _ _ hr4 (by assumption)).mono ?_; rintro ev w5 ⟨rfl, hg5⟩; have hs5 := KeepS.gr (by assumption) hg5; have hq5 : Gr w1.drew w5 := Gr.tr (by assumption) hg5))
  have HS5 := Lib.hid hs5
  have hvq5 := HVQ.out.gr ((Gr.drew (Gr.rf w1) 1).tr hq5)
  have HVQ5 := Lib.hid hvq5
  obtain ⟨hlq, hlc, gq, oq, rfl, hgl, hcl⟩ := rn_first hvq5 (Nat.pos_of_ne_zero HQ0.out)
  have hb1 : decide (0 < (lq : Int)) = true := decide_eq_true (by omega)
  have hb1n : decide (0 < lq) = true := decide_eq_true hlq
  have hlqi : (0 : Int) < (lq : Int) := by omega
  obtain ⟨ob, hob, hobn⟩ : ∃ ob : Bool, (((q % Dg.D : Nat) : Int) % 2 == 1) = ob ∧ (q % 2 = 1 ↔ ob = true) := ⟨_, rfl, by rw [← dig_even q]; simp; omega⟩
  generalize q % Dg.D = dq at *
  have HOB := Lib.hid hobn
  clear hobn
  obtain ⟨_, c0, c1, c2⟩ := HAL.out _ HS5.out
  clear hs3 hs4 hs5 hq3 hq4 hq5 hg3 hg4 hg5 hr3 hr4 hvq5 HCM HMU HALG
  go_wp2_with fail
  refine (HO1.out _).mono ?_
  rintro ev w6 ⟨⟨r6, rfl, hr6⟩, hg6⟩
  have HG6 := Lib.hid hg6
  have HAD := Lib.hid (r_add (k := k + 1) (HVQ5.out.gr hg6) hr6 (b_up HBB.out.1 (by omega)) (b_one (by omega)) (by have := HBD.out.2; omega))
  clear hr6 hg6
  go_wp2_with fail
  refine HAD.out.mono ?_
  rintro ev w7 ⟨⟨r7, rfl, hr7⟩, hg7⟩
  obtain ⟨a7, l7, c7, rfl⟩ := rn_sl hr7
  have HR7 := Lib.hid hr7
  have HS7 := Lib.hid (KeepS.gr HS5.out (HG6.out.tr hg7))
  obtain ⟨_, c0, c1, c2⟩ := HAL.out _ HS7.out
  clear hr7 hg7
  have hin := rInt_calls sb (.slice a7 l7 c7) (q + 1) w7 HR7.out
  rw [← HDZ.out] at hin
  have HIN := Lib.hid hin
  clear hin
  go_wp2_with fail
  refine HIN.out.mono ?_
  rintro ev w8 ⟨rfl, hg8⟩
  have HR8 := Lib.hid (HR7.out.gr hg8)
  have HS8 := Lib.hid (KeepS.gr HS7.out hg8)
  obtain ⟨f0, u0, z0, k0⟩ := HS8.out.2.2.2.2 0 (by decide)
  obtain ⟨f1, u1, z1, k1⟩ := HS8.out.2.2.2.2 1 (by decide)
  have HE := Lib.hid (fun x y => two_set w8 (w.heap.size + 1) x y _ _ z0 z1 k0 k1)
  clear hg8
  go_wp2
  (try simp only [Exit.inBlock, Exit.then])
  refine bodyPost_ret (ret_near _ _ (HE.out _ _).1 _ rfl) rfl ?_
  exact ⟨⟨_, rfl, show RN _ _ _ from (HE.out _ _).2.1 _ _ HR8.out⟩, (HE.out _ _).2.2 w HS8.out.1 (by omega)⟩
set_option maxRecDepth 100000 in
set_option maxHeartbeats 8000000 in
theorem near_3ltz (sb : Bool) (vx vy : Value) (a b : Nat) (w : World) (hx : RN w vx a) (hy : RN w vy b) (k : Nat) (ha : a < Dg.D ^ k) (hb : b < Dg.D ^ k) (hk : k ≤ 400) (hb0 : 0 < b) (hc : a % b + a % b < b) (hq : a / b = 0) :
    Calls Tryz.prog 23 #[.agg #[.bool sb, vx, vy], .int .i64 3] w fun e w' => (∃ v, e = .returned (.agg #[.bool (sb && decide (0 < a / b)), v]) ∧ RN w' v (a / b)) ∧ Gr w w' := by
  obtain ⟨ax, lx, cx, rfl⟩ := rn_sl hx
  obtain ⟨ay, ly, cy, rfl⟩ := rn_sl hy
  have h1 := heap_alloc_new w (.cells #[.bool sb, .slice ax lx cx, .slice ay ly cy] 29)
  have h3 := heap_alloc_new (w.alloc (.cells #[.bool sb, .slice ax lx cx, .slice ay ly cy] 29)) (.cells #[.bool false, .slice none 0 0] 27)
  rw [size_al] at h3
  have g1 : Gr w (w.alloc (.cells #[.bool sb, .slice ax lx cx, .slice ay ly cy] 29)) := (Gr.rf w).alloc (Nat.le_refl _) _
  have g2 : Gr (w.alloc (.cells #[.bool sb, .slice ax lx cx, .slice ay ly cy] 29)) ((w.alloc (.cells #[.bool sb, .slice ax lx cx, .slice ay ly cy] 29)).alloc (.cells #[.bool false, .slice none 0 0] 27)) := (Gr.rf _).alloc (Nat.le_refl _) _
  have hsz : ((w.alloc (.cells #[.bool sb, .slice ax lx cx, .slice ay ly cy] 29)).alloc (.cells #[.bool false, .slice none 0 0] 27)).heap.size = w.heap.size + 2 := by rw [size_al, size_al]
  have h1 := g2.heap h1
  have hS : KeepS w (w.heap.size + 1) 2 [(w.heap.size, 0, .bool sb), (w.heap.size, 1, .slice ax lx cx), (w.heap.size, 2, .slice ay ly cy)] [(.slice ax lx cx, a), (.slice ay ly cy, b)] ((w.alloc (.cells #[.bool sb, .slice ax lx cx, .slice ay ly cy] 29)).alloc (.cells #[.bool false, .slice none 0 0] 27)) := by
    refine ⟨g1.tr g2, fun p hp => ?_, fun p hp => ?_, ⟨by omega, by omega⟩, fun j hj => ?_⟩
    · simp only [List.mem_cons, List.not_mem_nil, or_false] at hp
      rcases hp with rfl | rfl
      · exact hx.gr (g1.tr g2)
      · exact hy.gr (g1.tr g2)
    · simp only [List.mem_cons, List.not_mem_nil, or_false] at hp
      rcases hp with rfl | rfl | rfl
      · exact ⟨heap_cell h1 0, by show w.heap.size ≠ _; omega, by show w.heap.size < _; omega⟩
      · exact ⟨heap_cell h1 1, by show w.heap.size ≠ _; omega, by show w.heap.size < _; omega⟩
      · exact ⟨heap_cell h1 2, by show w.heap.size ≠ _; omega, by show w.heap.size < _; omega⟩
    · rcases j with _ | _ | j
      · exact ⟨heap_frz h3 0, _, heap_cell h3 0, fun n h => by cases h⟩
      · exact ⟨heap_frz h3 1, _, heap_cell h3 1, fun n h => by cases h⟩
      · omega
  have HAL : Hid (∀ w', KeepS w (w.heap.size + 1) 2 [(w.heap.size, 0, .bool sb), (w.heap.size, 1, .slice ax lx cx), (w.heap.size, 2, .slice ay ly cy)] [(.slice ax lx cx, a), (.slice ay ly cy, b)] w' → (KeepS w (w.heap.size + 1) 2 [(w.heap.size, 0, .bool sb), (w.heap.size, 1, .slice ax lx cx), (w.heap.size, 2, .slice ay ly cy)] [(.slice ax lx cx, a), (.slice ay ly cy, b)] w' ∧ w'.cell? ⟨w.heap.size, 0, none⟩ = some (.bool sb) ∧ w'.cell? ⟨w.heap.size, 1, none⟩ = some (.slice ax lx cx) ∧ w'.cell? ⟨w.heap.size, 2, none⟩ = some (.slice ay ly cy))) := Lib.hid (fun w' h => ⟨h, h.cell (w.heap.size, 0, .bool sb) (by simp), h.cell (w.heap.size, 1, .slice ax lx cx) (by simp), h.cell (w.heap.size, 2, .slice ay ly cy) (by simp)⟩)
  have HS := Lib.hid hS
  have hqk : a / b < Dg.D ^ k := b_div ha
  have hrk : a % b < Dg.D ^ k := b_mod ha
  have HDV : Hid (∀ w', KeepS w (w.heap.size + 1) 2 [(w.heap.size, 0, .bool sb), (w.heap.size, 1, .slice ax lx cx), (w.heap.size, 2, .slice ay ly cy)] [(.slice ax lx cx, a), (.slice ay ly cy, b)] w' → Calls Tryz.prog 84 #[.slice ax lx cx, .slice ay ly cy] w' fun e w2 => (∃ q r, e = .returned (.tuple #[q, r]) ∧ RN w2 q (a / b) ∧ RN w2 r (a % b)) ∧ Gr w' w2) := Lib.hid (fun w' h => r_div (h.rn (.slice ax lx cx, a) (by simp)) (h.rn (.slice ay ly cy, b) (by simp)) ha hb (by omega) hb0)
  have HO2 : Hid (∀ w', Calls Tryz.prog 27 #[.int .u64 2] w' fun e w2 => (∃ r, e = .returned r ∧ RN w2 r 2) ∧ Gr w' w2) := Lib.hid (fun w' => r_ofU 2 (by decide) w')
  have HO1 : Hid (∀ w', Calls Tryz.prog 27 #[.int .u64 1] w' fun e w2 => (∃ r, e = .returned r ∧ RN w2 r 1) ∧ Gr w' w2) := Lib.hid (fun w' => r_ofU 1 (by decide) w')
  have HBB := Lib.hid (And.intro hqk hrk)
  have HBD := Lib.hid (And.intro hb hk)
  have HCC := Lib.hid hc
  have HQ0 := Lib.hid hq
  generalize hqe : a / b = q at *
  generalize hre : a % b = r at *
  clear hx hy h1 h3 g1 g2 hsz hS ha hb hb0 hqk hrk hqe hre hc hk hq
  obtain ⟨dz, hdz⟩ : ∃ dz, dz = decide (0 < q) := ⟨_, rfl⟩
  have HDZ := Lib.hid hdz
  rw [← hdz]
  clear hdz
  go_enter Tryz.func23, Tryz.ntmps23
  obtain ⟨_, c0, c1, c2⟩ := HAL.out _ HS.out
  go_wp2_with fail
  generalize (w.alloc (.cells #[.bool sb, .slice ax lx cx, .slice ay ly cy] 29)).alloc (.cells #[.bool false, .slice none 0 0] 27) = wz at *
  refine (HDV.out _ HS.out).mono ?_
  rintro ev w1 ⟨⟨vq, vr, rfl, hvq, hvr⟩, hg1⟩
  obtain ⟨aq, lq, cq, rfl⟩ := rn_sl hvq
  obtain ⟨ar, lr, cr, rfl⟩ := rn_sl hvr
  have HVQ := Lib.hid hvq
  have HVR := Lib.hid hvr
  have HS1 := Lib.hid (KeepS.gr HS.out hg1)
  have HSD := Lib.hid (KeepS.gr HS1.out (Gr.drew (Gr.rf _) 1))
  have HVRD := Lib.hid (HVR.out.gr (Gr.drew (Gr.rf w1) 1))
  have HCM : Hid (∀ w' x, RN w' x (r * 2) → KeepS w (w.heap.size + 1) 2 [(w.heap.size, 0, .bool sb), (w.heap.size, 1, .slice ax lx cx), (w.heap.size, 2, .slice ay ly cy)] [(.slice ax lx cx, a), (.slice ay ly cy, b)] w' → Calls Tryz.prog 37 #[x, .slice ay ly cy] w' fun e w2 => e = .returned (.int .i64 (-1)) ∧ Gr w' w2) := Lib.hid (fun w' x h hs => r_cmp (k := k + 1) h (hs.rn (.slice ay ly cy, b) (by simp)) (b_mul HBB.out.2 (show 2 < Dg.D ^ 1 by decide) rfl) (b_up HBD.out.1 (by omega)) (by have := HBD.out.2; omega) (cmpN_lt (by have := HCC.out; omega)))
  have HMU : Hid (∀ w' x, RN w' x 2 → Gr w1.drew w' → Calls Tryz.prog 80 #[.slice ar lr cr, x] w' fun e w2 => (∃ v, e = .returned v ∧ RN w2 v (r * 2)) ∧ Gr w' w2) := Lib.hid (fun w' x h hg => r_mul (k := k + 1) (HVRD.out.gr hg) h (b_up HBB.out.2 (by omega)) (b_up (show 2 < Dg.D ^ 1 by decide) (by omega)) (by have := HBD.out.2; omega))
  clear hvq hvr hg1 c0 c1 c2
  have HALG : Hid (∀ w', KeepS w (w.heap.size + 1) 2 [(w.heap.size, 0, .bool sb), (w.heap.size, 1, .slice ax lx cx), (w.heap.size, 2, .slice ay ly cy)] [(.slice ax lx cx, a), (.slice ay ly cy, b)] w' → Gr w1.drew w' → ((KeepS w (w.heap.size + 1) 2 [(w.heap.size, 0, .bool sb), (w.heap.size, 1, .slice ax lx cx), (w.heap.size, 2, .slice ay ly cy)] [(.slice ax lx cx, a), (.slice ay ly cy, b)] w' ∧ Gr w1.drew w') ∧ w'.cell? ⟨w.heap.size, 0, none⟩ = some (.bool sb) ∧ w'.cell? ⟨w.heap.size, 1, none⟩ = some (.slice ax lx cx) ∧ w'.cell? ⟨w.heap.size, 2, none⟩ = some (.slice ay ly cy))) := Lib.hid (fun w' h hg => ⟨⟨h, hg⟩, (HAL.out w' h).2⟩)
  go_wp2_with fail
  go_region_held3 (fun w' => (KeepS w (w.heap.size + 1) 2 [(w.heap.size, 0, .bool sb), (w.heap.size, 1, .slice ax lx cx), (w.heap.size, 2, .slice ay ly cy)] [(.slice ax lx cx, a), (.slice ay ly cy, b)] w' ∧ Gr w1.drew w') ∧ w'.cell? ⟨w.heap.size, 0, none⟩ = some (.bool sb) ∧ w'.cell? ⟨w.heap.size, 1, none⟩ = some (.slice ax lx cx) ∧ w'.cell? ⟨w.heap.size, 2, none⟩ = some (.slice ay ly cy))
    (first | exact HALG.out _ HSD.out (Gr.rf _) | exact HALG.out _ hs3 hq3 | exact HALG.out _ hs4 hq4 | exact HALG.out _ hs5 hq5 | fail)
    (first
      | (go_at_call 27; go_split_ands; refine (HO2.out _).mono ?_; rintro ev w3 ⟨⟨r3, rfl, hr3⟩, hg3⟩; have hs3 := KeepS.gr (by assumption) hg3; have hq3 : Gr w1.drew w3 := Gr.tr (by assumption) hg3)
      | (go_at_call 80; go_split_ands; refine (HMU.out _ _ hr3 (by assumption)).mono ?_; rintro ev w4 ⟨⟨r4, rfl, hr4⟩, hg4⟩; have hs4 := KeepS.gr (by assumption) hg4; have hq4 : Gr w1.drew w4 := Gr.tr (by assumption) hg4)
      | (go_at_call 37; go_split_ands; refine (HCM.out _ _ hr4 (by assumption)).mono ?_; rintro ev w5 ⟨rfl, hg5⟩; have hs5 := KeepS.gr (by assumption) hg5; have hq5 : Gr w1.drew w5 := Gr.tr (by assumption) hg5))
  have HS5 := Lib.hid hs5
  have hvq5 := HVQ.out.gr ((Gr.drew (Gr.rf w1) 1).tr hq5)
  have HVQ5 := Lib.hid hvq5
  have hlq : lq = 0 := by have h1 := (digs_len0 q).2 HQ0.out; obtain ⟨x, c, h2⟩ := rn_len hvq5; injection h2 with _ h2; omega
  have hb1 : decide (0 < (lq : Int)) = false := decide_eq_false (by omega)
  have hb1n : decide (0 < lq) = false := decide_eq_false (by omega)
  clear hlq
  obtain ⟨_, c0, c1, c2⟩ := HAL.out _ HS5.out
  clear hs3 hs4 hs5 hq3 hq4 hq5 hg3 hg4 hg5 hr3 hr4 hvq5 HCM HMU HALG
  go_wp2_with fail
  have HR7 := HVQ5
  have HS7 := HS5
  have hin := rInt_calls sb _ q _ HR7.out
  rw [← HDZ.out] at hin
  have HIN := Lib.hid hin
  clear hin
  refine HIN.out.mono ?_
  rintro ev w8 ⟨rfl, hg8⟩
  have HR8 := Lib.hid (HR7.out.gr hg8)
  have HS8 := Lib.hid (KeepS.gr HS7.out hg8)
  obtain ⟨f0, u0, z0, k0⟩ := HS8.out.2.2.2.2 0 (by decide)
  obtain ⟨f1, u1, z1, k1⟩ := HS8.out.2.2.2.2 1 (by decide)
  have HE := Lib.hid (fun x y => two_set w8 (w.heap.size + 1) x y _ _ z0 z1 k0 k1)
  clear hg8
  go_wp2
  (try simp only [Exit.inBlock, Exit.then])
  refine bodyPost_ret (ret_near _ _ (HE.out _ _).1 _ rfl) rfl ?_
  exact ⟨⟨_, rfl, show RN _ _ _ from (HE.out _ _).2.1 _ _ HR8.out⟩, (HE.out _ _).2.2 w HS8.out.1 (by omega)⟩
set_option maxRecDepth 100000 in
set_option maxHeartbeats 8000000 in
theorem near_3ltq (sb : Bool) (vx vy : Value) (a b : Nat) (w : World) (hx : RN w vx a) (hy : RN w vy b) (k : Nat) (ha : a < Dg.D ^ k) (hb : b < Dg.D ^ k) (hk : k ≤ 400) (hb0 : 0 < b) (hc : a % b + a % b < b) (hq : a / b ≠ 0) :
    Calls Tryz.prog 23 #[.agg #[.bool sb, vx, vy], .int .i64 3] w fun e w' => (∃ v, e = .returned (.agg #[.bool (sb && decide (0 < a / b)), v]) ∧ RN w' v (a / b)) ∧ Gr w w' := by
  obtain ⟨ax, lx, cx, rfl⟩ := rn_sl hx
  obtain ⟨ay, ly, cy, rfl⟩ := rn_sl hy
  have h1 := heap_alloc_new w (.cells #[.bool sb, .slice ax lx cx, .slice ay ly cy] 29)
  have h3 := heap_alloc_new (w.alloc (.cells #[.bool sb, .slice ax lx cx, .slice ay ly cy] 29)) (.cells #[.bool false, .slice none 0 0] 27)
  rw [size_al] at h3
  have g1 : Gr w (w.alloc (.cells #[.bool sb, .slice ax lx cx, .slice ay ly cy] 29)) := (Gr.rf w).alloc (Nat.le_refl _) _
  have g2 : Gr (w.alloc (.cells #[.bool sb, .slice ax lx cx, .slice ay ly cy] 29)) ((w.alloc (.cells #[.bool sb, .slice ax lx cx, .slice ay ly cy] 29)).alloc (.cells #[.bool false, .slice none 0 0] 27)) := (Gr.rf _).alloc (Nat.le_refl _) _
  have hsz : ((w.alloc (.cells #[.bool sb, .slice ax lx cx, .slice ay ly cy] 29)).alloc (.cells #[.bool false, .slice none 0 0] 27)).heap.size = w.heap.size + 2 := by rw [size_al, size_al]
  have h1 := g2.heap h1
  have hS : KeepS w (w.heap.size + 1) 2 [(w.heap.size, 0, .bool sb), (w.heap.size, 1, .slice ax lx cx), (w.heap.size, 2, .slice ay ly cy)] [(.slice ax lx cx, a), (.slice ay ly cy, b)] ((w.alloc (.cells #[.bool sb, .slice ax lx cx, .slice ay ly cy] 29)).alloc (.cells #[.bool false, .slice none 0 0] 27)) := by
    refine ⟨g1.tr g2, fun p hp => ?_, fun p hp => ?_, ⟨by omega, by omega⟩, fun j hj => ?_⟩
    · simp only [List.mem_cons, List.not_mem_nil, or_false] at hp
      rcases hp with rfl | rfl
      · exact hx.gr (g1.tr g2)
      · exact hy.gr (g1.tr g2)
    · simp only [List.mem_cons, List.not_mem_nil, or_false] at hp
      rcases hp with rfl | rfl | rfl
      · exact ⟨heap_cell h1 0, by show w.heap.size ≠ _; omega, by show w.heap.size < _; omega⟩
      · exact ⟨heap_cell h1 1, by show w.heap.size ≠ _; omega, by show w.heap.size < _; omega⟩
      · exact ⟨heap_cell h1 2, by show w.heap.size ≠ _; omega, by show w.heap.size < _; omega⟩
    · rcases j with _ | _ | j
      · exact ⟨heap_frz h3 0, _, heap_cell h3 0, fun n h => by cases h⟩
      · exact ⟨heap_frz h3 1, _, heap_cell h3 1, fun n h => by cases h⟩
      · omega
  have HAL : Hid (∀ w', KeepS w (w.heap.size + 1) 2 [(w.heap.size, 0, .bool sb), (w.heap.size, 1, .slice ax lx cx), (w.heap.size, 2, .slice ay ly cy)] [(.slice ax lx cx, a), (.slice ay ly cy, b)] w' → (KeepS w (w.heap.size + 1) 2 [(w.heap.size, 0, .bool sb), (w.heap.size, 1, .slice ax lx cx), (w.heap.size, 2, .slice ay ly cy)] [(.slice ax lx cx, a), (.slice ay ly cy, b)] w' ∧ w'.cell? ⟨w.heap.size, 0, none⟩ = some (.bool sb) ∧ w'.cell? ⟨w.heap.size, 1, none⟩ = some (.slice ax lx cx) ∧ w'.cell? ⟨w.heap.size, 2, none⟩ = some (.slice ay ly cy))) := Lib.hid (fun w' h => ⟨h, h.cell (w.heap.size, 0, .bool sb) (by simp), h.cell (w.heap.size, 1, .slice ax lx cx) (by simp), h.cell (w.heap.size, 2, .slice ay ly cy) (by simp)⟩)
  have HS := Lib.hid hS
  have hqk : a / b < Dg.D ^ k := b_div ha
  have hrk : a % b < Dg.D ^ k := b_mod ha
  have HDV : Hid (∀ w', KeepS w (w.heap.size + 1) 2 [(w.heap.size, 0, .bool sb), (w.heap.size, 1, .slice ax lx cx), (w.heap.size, 2, .slice ay ly cy)] [(.slice ax lx cx, a), (.slice ay ly cy, b)] w' → Calls Tryz.prog 84 #[.slice ax lx cx, .slice ay ly cy] w' fun e w2 => (∃ q r, e = .returned (.tuple #[q, r]) ∧ RN w2 q (a / b) ∧ RN w2 r (a % b)) ∧ Gr w' w2) := Lib.hid (fun w' h => r_div (h.rn (.slice ax lx cx, a) (by simp)) (h.rn (.slice ay ly cy, b) (by simp)) ha hb (by omega) hb0)
  have HO2 : Hid (∀ w', Calls Tryz.prog 27 #[.int .u64 2] w' fun e w2 => (∃ r, e = .returned r ∧ RN w2 r 2) ∧ Gr w' w2) := Lib.hid (fun w' => r_ofU 2 (by decide) w')
  have HO1 : Hid (∀ w', Calls Tryz.prog 27 #[.int .u64 1] w' fun e w2 => (∃ r, e = .returned r ∧ RN w2 r 1) ∧ Gr w' w2) := Lib.hid (fun w' => r_ofU 1 (by decide) w')
  have HBB := Lib.hid (And.intro hqk hrk)
  have HBD := Lib.hid (And.intro hb hk)
  have HCC := Lib.hid hc
  have HQ0 := Lib.hid hq
  generalize hqe : a / b = q at *
  generalize hre : a % b = r at *
  clear hx hy h1 h3 g1 g2 hsz hS ha hb hb0 hqk hrk hqe hre hc hk hq
  obtain ⟨dz, hdz⟩ : ∃ dz, dz = decide (0 < q) := ⟨_, rfl⟩
  have HDZ := Lib.hid hdz
  rw [← hdz]
  clear hdz
  go_enter Tryz.func23, Tryz.ntmps23
  obtain ⟨_, c0, c1, c2⟩ := HAL.out _ HS.out
  go_wp2_with fail
  generalize (w.alloc (.cells #[.bool sb, .slice ax lx cx, .slice ay ly cy] 29)).alloc (.cells #[.bool false, .slice none 0 0] 27) = wz at *
  refine (HDV.out _ HS.out).mono ?_
  rintro ev w1 ⟨⟨vq, vr, rfl, hvq, hvr⟩, hg1⟩
  obtain ⟨aq, lq, cq, rfl⟩ := rn_sl hvq
  obtain ⟨ar, lr, cr, rfl⟩ := rn_sl hvr
  have HVQ := Lib.hid hvq
  have HVR := Lib.hid hvr
  have HS1 := Lib.hid (KeepS.gr HS.out hg1)
  have HSD := Lib.hid (KeepS.gr HS1.out (Gr.drew (Gr.rf _) 1))
  have HVRD := Lib.hid (HVR.out.gr (Gr.drew (Gr.rf w1) 1))
  have HCM : Hid (∀ w' x, RN w' x (r * 2) → KeepS w (w.heap.size + 1) 2 [(w.heap.size, 0, .bool sb), (w.heap.size, 1, .slice ax lx cx), (w.heap.size, 2, .slice ay ly cy)] [(.slice ax lx cx, a), (.slice ay ly cy, b)] w' → Calls Tryz.prog 37 #[x, .slice ay ly cy] w' fun e w2 => e = .returned (.int .i64 (-1)) ∧ Gr w' w2) := Lib.hid (fun w' x h hs => r_cmp (k := k + 1) h (hs.rn (.slice ay ly cy, b) (by simp)) (b_mul HBB.out.2 (show 2 < Dg.D ^ 1 by decide) rfl) (b_up HBD.out.1 (by omega)) (by have := HBD.out.2; omega) (cmpN_lt (by have := HCC.out; omega)))
  have HMU : Hid (∀ w' x, RN w' x 2 → Gr w1.drew w' → Calls Tryz.prog 80 #[.slice ar lr cr, x] w' fun e w2 => (∃ v, e = .returned v ∧ RN w2 v (r * 2)) ∧ Gr w' w2) := Lib.hid (fun w' x h hg => r_mul (k := k + 1) (HVRD.out.gr hg) h (b_up HBB.out.2 (by omega)) (b_up (show 2 < Dg.D ^ 1 by decide) (by omega)) (by have := HBD.out.2; omega))
  clear hvq hvr hg1 c0 c1 c2
  have HALG : Hid (∀ w', KeepS w (w.heap.size + 1) 2 [(w.heap.size, 0, .bool sb), (w.heap.size, 1, .slice ax lx cx), (w.heap.size, 2, .slice ay ly cy)] [(.slice ax lx cx, a), (.slice ay ly cy, b)] w' → Gr w1.drew w' → ((KeepS w (w.heap.size + 1) 2 [(w.heap.size, 0, .bool sb), (w.heap.size, 1, .slice ax lx cx), (w.heap.size, 2, .slice ay ly cy)] [(.slice ax lx cx, a), (.slice ay ly cy, b)] w' ∧ Gr w1.drew w') ∧ w'.cell? ⟨w.heap.size, 0, none⟩ = some (.bool sb) ∧ w'.cell? ⟨w.heap.size, 1, none⟩ = some (.slice ax lx cx) ∧ w'.cell? ⟨w.heap.size, 2, none⟩ = some (.slice ay ly cy))) := Lib.hid (fun w' h hg => ⟨⟨h, hg⟩, (HAL.out w' h).2⟩)
  go_wp2_with fail
  go_region_held3 (fun w' => (KeepS w (w.heap.size + 1) 2 [(w.heap.size, 0, .bool sb), (w.heap.size, 1, .slice ax lx cx), (w.heap.size, 2, .slice ay ly cy)] [(.slice ax lx cx, a), (.slice ay ly cy, b)] w' ∧ Gr w1.drew w') ∧ w'.cell? ⟨w.heap.size, 0, none⟩ = some (.bool sb) ∧ w'.cell? ⟨w.heap.size, 1, none⟩ = some (.slice ax lx cx) ∧ w'.cell? ⟨w.heap.size, 2, none⟩ = some (.slice ay ly cy))
    (first | exact HALG.out _ HSD.out (Gr.rf _) | exact HALG.out _ hs3 hq3 | exact HALG.out _ hs4 hq4 | exact HALG.out _ hs5 hq5 | fail)
    (first
      | (go_at_call 27; go_split_ands; refine (HO2.out _).mono ?_; rintro ev w3 ⟨⟨r3, rfl, hr3⟩, hg3⟩; have hs3 := KeepS.gr (by assumption) hg3; have hq3 : Gr w1.drew w3 := Gr.tr (by assumption) hg3)
      | (go_at_call 80; go_split_ands; refine (HMU.out _ _ hr3 (by assumption)).mono ?_; rintro ev w4 ⟨⟨r4, rfl, hr4⟩, hg4⟩; have hs4 := KeepS.gr (by assumption) hg4; have hq4 : Gr w1.drew w4 := Gr.tr (by assumption) hg4)
      | (go_at_call 37; go_split_ands; refine (HCM.out _ _ hr4 (by assumption)).mono ?_; rintro ev w5 ⟨rfl, hg5⟩; have hs5 := KeepS.gr (by assumption) hg5; have hq5 : Gr w1.drew w5 := Gr.tr (by assumption) hg5))
  have HS5 := Lib.hid hs5
  have hvq5 := HVQ.out.gr ((Gr.drew (Gr.rf w1) 1).tr hq5)
  have HVQ5 := Lib.hid hvq5
  obtain ⟨hlq, hlc, gq, oq, rfl, hgl, hcl⟩ := rn_first hvq5 (Nat.pos_of_ne_zero HQ0.out)
  have hb1 : decide (0 < (lq : Int)) = true := decide_eq_true (by omega)
  have hb1n : decide (0 < lq) = true := decide_eq_true hlq
  have hlqi : (0 : Int) < (lq : Int) := by omega
  obtain ⟨ob, hob, hobn⟩ : ∃ ob : Bool, (((q % Dg.D : Nat) : Int) % 2 == 1) = ob ∧ (q % 2 = 1 ↔ ob = true) := ⟨_, rfl, by rw [← dig_even q]; simp; omega⟩
  generalize q % Dg.D = dq at *
  have HOB := Lib.hid hobn
  clear hobn
  obtain ⟨_, c0, c1, c2⟩ := HAL.out _ HS5.out
  clear hs3 hs4 hs5 hq3 hq4 hq5 hg3 hg4 hg5 hr3 hr4 hvq5 HCM HMU HALG
  go_wp2_with fail
  have HR7 := HVQ5
  have HS7 := HS5
  have hin := rInt_calls sb _ q _ HR7.out
  rw [← HDZ.out] at hin
  have HIN := Lib.hid hin
  clear hin
  refine HIN.out.mono ?_
  rintro ev w8 ⟨rfl, hg8⟩
  have HR8 := Lib.hid (HR7.out.gr hg8)
  have HS8 := Lib.hid (KeepS.gr HS7.out hg8)
  obtain ⟨f0, u0, z0, k0⟩ := HS8.out.2.2.2.2 0 (by decide)
  obtain ⟨f1, u1, z1, k1⟩ := HS8.out.2.2.2.2 1 (by decide)
  have HE := Lib.hid (fun x y => two_set w8 (w.heap.size + 1) x y _ _ z0 z1 k0 k1)
  clear hg8
  go_wp2
  (try simp only [Exit.inBlock, Exit.then])
  refine bodyPost_ret (ret_near _ _ (HE.out _ _).1 _ rfl) rfl ?_
  exact ⟨⟨_, rfl, show RN _ _ _ from (HE.out _ _).2.1 _ _ HR8.out⟩, (HE.out _ _).2.2 w HS8.out.1 (by omega)⟩
set_option maxRecDepth 100000 in
set_option maxHeartbeats 8000000 in
theorem near_3eqz (sb : Bool) (vx vy : Value) (a b : Nat) (w : World) (hx : RN w vx a) (hy : RN w vy b) (k : Nat) (ha : a < Dg.D ^ k) (hb : b < Dg.D ^ k) (hk : k ≤ 400) (hb0 : 0 < b) (hc : a % b + a % b = b) (hq : a / b = 0) :
    Calls Tryz.prog 23 #[.agg #[.bool sb, vx, vy], .int .i64 3] w fun e w' => (∃ v, e = .returned (.agg #[.bool (sb && decide (0 < a / b)), v]) ∧ RN w' v (a / b)) ∧ Gr w w' := by
  obtain ⟨ax, lx, cx, rfl⟩ := rn_sl hx
  obtain ⟨ay, ly, cy, rfl⟩ := rn_sl hy
  have h1 := heap_alloc_new w (.cells #[.bool sb, .slice ax lx cx, .slice ay ly cy] 29)
  have h3 := heap_alloc_new (w.alloc (.cells #[.bool sb, .slice ax lx cx, .slice ay ly cy] 29)) (.cells #[.bool false, .slice none 0 0] 27)
  rw [size_al] at h3
  have g1 : Gr w (w.alloc (.cells #[.bool sb, .slice ax lx cx, .slice ay ly cy] 29)) := (Gr.rf w).alloc (Nat.le_refl _) _
  have g2 : Gr (w.alloc (.cells #[.bool sb, .slice ax lx cx, .slice ay ly cy] 29)) ((w.alloc (.cells #[.bool sb, .slice ax lx cx, .slice ay ly cy] 29)).alloc (.cells #[.bool false, .slice none 0 0] 27)) := (Gr.rf _).alloc (Nat.le_refl _) _
  have hsz : ((w.alloc (.cells #[.bool sb, .slice ax lx cx, .slice ay ly cy] 29)).alloc (.cells #[.bool false, .slice none 0 0] 27)).heap.size = w.heap.size + 2 := by rw [size_al, size_al]
  have h1 := g2.heap h1
  have hS : KeepS w (w.heap.size + 1) 2 [(w.heap.size, 0, .bool sb), (w.heap.size, 1, .slice ax lx cx), (w.heap.size, 2, .slice ay ly cy)] [(.slice ax lx cx, a), (.slice ay ly cy, b)] ((w.alloc (.cells #[.bool sb, .slice ax lx cx, .slice ay ly cy] 29)).alloc (.cells #[.bool false, .slice none 0 0] 27)) := by
    refine ⟨g1.tr g2, fun p hp => ?_, fun p hp => ?_, ⟨by omega, by omega⟩, fun j hj => ?_⟩
    · simp only [List.mem_cons, List.not_mem_nil, or_false] at hp
      rcases hp with rfl | rfl
      · exact hx.gr (g1.tr g2)
      · exact hy.gr (g1.tr g2)
    · simp only [List.mem_cons, List.not_mem_nil, or_false] at hp
      rcases hp with rfl | rfl | rfl
      · exact ⟨heap_cell h1 0, by show w.heap.size ≠ _; omega, by show w.heap.size < _; omega⟩
      · exact ⟨heap_cell h1 1, by show w.heap.size ≠ _; omega, by show w.heap.size < _; omega⟩
      · exact ⟨heap_cell h1 2, by show w.heap.size ≠ _; omega, by show w.heap.size < _; omega⟩
    · rcases j with _ | _ | j
      · exact ⟨heap_frz h3 0, _, heap_cell h3 0, fun n h => by cases h⟩
      · exact ⟨heap_frz h3 1, _, heap_cell h3 1, fun n h => by cases h⟩
      · omega
  have HAL : Hid (∀ w', KeepS w (w.heap.size + 1) 2 [(w.heap.size, 0, .bool sb), (w.heap.size, 1, .slice ax lx cx), (w.heap.size, 2, .slice ay ly cy)] [(.slice ax lx cx, a), (.slice ay ly cy, b)] w' → (KeepS w (w.heap.size + 1) 2 [(w.heap.size, 0, .bool sb), (w.heap.size, 1, .slice ax lx cx), (w.heap.size, 2, .slice ay ly cy)] [(.slice ax lx cx, a), (.slice ay ly cy, b)] w' ∧ w'.cell? ⟨w.heap.size, 0, none⟩ = some (.bool sb) ∧ w'.cell? ⟨w.heap.size, 1, none⟩ = some (.slice ax lx cx) ∧ w'.cell? ⟨w.heap.size, 2, none⟩ = some (.slice ay ly cy))) := Lib.hid (fun w' h => ⟨h, h.cell (w.heap.size, 0, .bool sb) (by simp), h.cell (w.heap.size, 1, .slice ax lx cx) (by simp), h.cell (w.heap.size, 2, .slice ay ly cy) (by simp)⟩)
  have HS := Lib.hid hS
  have hqk : a / b < Dg.D ^ k := b_div ha
  have hrk : a % b < Dg.D ^ k := b_mod ha
  have HDV : Hid (∀ w', KeepS w (w.heap.size + 1) 2 [(w.heap.size, 0, .bool sb), (w.heap.size, 1, .slice ax lx cx), (w.heap.size, 2, .slice ay ly cy)] [(.slice ax lx cx, a), (.slice ay ly cy, b)] w' → Calls Tryz.prog 84 #[.slice ax lx cx, .slice ay ly cy] w' fun e w2 => (∃ q r, e = .returned (.tuple #[q, r]) ∧ RN w2 q (a / b) ∧ RN w2 r (a % b)) ∧ Gr w' w2) := Lib.hid (fun w' h => r_div (h.rn (.slice ax lx cx, a) (by simp)) (h.rn (.slice ay ly cy, b) (by simp)) ha hb (by omega) hb0)
  have HO2 : Hid (∀ w', Calls Tryz.prog 27 #[.int .u64 2] w' fun e w2 => (∃ r, e = .returned r ∧ RN w2 r 2) ∧ Gr w' w2) := Lib.hid (fun w' => r_ofU 2 (by decide) w')
  have HO1 : Hid (∀ w', Calls Tryz.prog 27 #[.int .u64 1] w' fun e w2 => (∃ r, e = .returned r ∧ RN w2 r 1) ∧ Gr w' w2) := Lib.hid (fun w' => r_ofU 1 (by decide) w')
  have HBB := Lib.hid (And.intro hqk hrk)
  have HBD := Lib.hid (And.intro hb hk)
  have HCC := Lib.hid hc
  have HQ0 := Lib.hid hq
  generalize hqe : a / b = q at *
  generalize hre : a % b = r at *
  clear hx hy h1 h3 g1 g2 hsz hS ha hb hb0 hqk hrk hqe hre hc hk hq
  obtain ⟨dz, hdz⟩ : ∃ dz, dz = decide (0 < q) := ⟨_, rfl⟩
  have HDZ := Lib.hid hdz
  rw [← hdz]
  clear hdz
  go_enter Tryz.func23, Tryz.ntmps23
  obtain ⟨_, c0, c1, c2⟩ := HAL.out _ HS.out
  go_wp2_with fail
  generalize (w.alloc (.cells #[.bool sb, .slice ax lx cx, .slice ay ly cy] 29)).alloc (.cells #[.bool false, .slice none 0 0] 27) = wz at *
  refine (HDV.out _ HS.out).mono ?_
  rintro ev w1 ⟨⟨vq, vr, rfl, hvq, hvr⟩, hg1⟩
  obtain ⟨aq, lq, cq, rfl⟩ := rn_sl hvq
  obtain ⟨ar, lr, cr, rfl⟩ := rn_sl hvr
  have HVQ := Lib.hid hvq
  have HVR := Lib.hid hvr
  have HS1 := Lib.hid (KeepS.gr HS.out hg1)
  have HSD := Lib.hid (KeepS.gr HS1.out (Gr.drew (Gr.rf _) 1))
  have HVRD := Lib.hid (HVR.out.gr (Gr.drew (Gr.rf w1) 1))
  have HCM : Hid (∀ w' x, RN w' x (r * 2) → KeepS w (w.heap.size + 1) 2 [(w.heap.size, 0, .bool sb), (w.heap.size, 1, .slice ax lx cx), (w.heap.size, 2, .slice ay ly cy)] [(.slice ax lx cx, a), (.slice ay ly cy, b)] w' → Calls Tryz.prog 37 #[x, .slice ay ly cy] w' fun e w2 => e = .returned (.int .i64 (0)) ∧ Gr w' w2) := Lib.hid (fun w' x h hs => r_cmp (k := k + 1) h (hs.rn (.slice ay ly cy, b) (by simp)) (b_mul HBB.out.2 (show 2 < Dg.D ^ 1 by decide) rfl) (b_up HBD.out.1 (by omega)) (by have := HBD.out.2; omega) (by rw [show r * 2 = b by have := HCC.out; omega]; exact cmpN_eq b))
  have HMU : Hid (∀ w' x, RN w' x 2 → Gr w1.drew w' → Calls Tryz.prog 80 #[.slice ar lr cr, x] w' fun e w2 => (∃ v, e = .returned v ∧ RN w2 v (r * 2)) ∧ Gr w' w2) := Lib.hid (fun w' x h hg => r_mul (k := k + 1) (HVRD.out.gr hg) h (b_up HBB.out.2 (by omega)) (b_up (show 2 < Dg.D ^ 1 by decide) (by omega)) (by have := HBD.out.2; omega))
  clear hvq hvr hg1 c0 c1 c2
  have HALG : Hid (∀ w', KeepS w (w.heap.size + 1) 2 [(w.heap.size, 0, .bool sb), (w.heap.size, 1, .slice ax lx cx), (w.heap.size, 2, .slice ay ly cy)] [(.slice ax lx cx, a), (.slice ay ly cy, b)] w' → Gr w1.drew w' → ((KeepS w (w.heap.size + 1) 2 [(w.heap.size, 0, .bool sb), (w.heap.size, 1, .slice ax lx cx), (w.heap.size, 2, .slice ay ly cy)] [(.slice ax lx cx, a), (.slice ay ly cy, b)] w' ∧ Gr w1.drew w') ∧ w'.cell? ⟨w.heap.size, 0, none⟩ = some (.bool sb) ∧ w'.cell? ⟨w.heap.size, 1, none⟩ = some (.slice ax lx cx) ∧ w'.cell? ⟨w.heap.size, 2, none⟩ = some (.slice ay ly cy))) := Lib.hid (fun w' h hg => ⟨⟨h, hg⟩, (HAL.out w' h).2⟩)
  go_wp2_with fail
  go_region_held3 (fun w' => (KeepS w (w.heap.size + 1) 2 [(w.heap.size, 0, .bool sb), (w.heap.size, 1, .slice ax lx cx), (w.heap.size, 2, .slice ay ly cy)] [(.slice ax lx cx, a), (.slice ay ly cy, b)] w' ∧ Gr w1.drew w') ∧ w'.cell? ⟨w.heap.size, 0, none⟩ = some (.bool sb) ∧ w'.cell? ⟨w.heap.size, 1, none⟩ = some (.slice ax lx cx) ∧ w'.cell? ⟨w.heap.size, 2, none⟩ = some (.slice ay ly cy))
    (first | exact HALG.out _ HSD.out (Gr.rf _) | exact HALG.out _ hs3 hq3 | exact HALG.out _ hs4 hq4 | exact HALG.out _ hs5 hq5 | fail)
    (first
      | (go_at_call 27; go_split_ands; refine (HO2.out _).mono ?_; rintro ev w3 ⟨⟨r3, rfl, hr3⟩, hg3⟩; have hs3 := KeepS.gr (by assumption) hg3; have hq3 : Gr w1.drew w3 := Gr.tr (by assumption) hg3)
      | (go_at_call 80; go_split_ands; refine (HMU.out _ _ hr3 (by assumption)).mono ?_; rintro ev w4 ⟨⟨r4, rfl, hr4⟩, hg4⟩; have hs4 := KeepS.gr (by assumption) hg4; have hq4 : Gr w1.drew w4 := Gr.tr (by assumption) hg4)
      | (go_at_call 37; go_split_ands; refine (HCM.out _ _ hr4 (by assumption)).mono ?_; rintro ev w5 ⟨rfl, hg5⟩; have hs5 := KeepS.gr (by assumption) hg5; have hq5 : Gr w1.drew w5 := Gr.tr (by assumption) hg5))
  have HS5 := Lib.hid hs5
  have hvq5 := HVQ.out.gr ((Gr.drew (Gr.rf w1) 1).tr hq5)
  have HVQ5 := Lib.hid hvq5
  have hlq : lq = 0 := by have h1 := (digs_len0 q).2 HQ0.out; obtain ⟨x, c, h2⟩ := rn_len hvq5; injection h2 with _ h2; omega
  have hb1 : decide (0 < (lq : Int)) = false := decide_eq_false (by omega)
  have hb1n : decide (0 < lq) = false := decide_eq_false (by omega)
  clear hlq
  obtain ⟨_, c0, c1, c2⟩ := HAL.out _ HS5.out
  clear hs3 hs4 hs5 hq3 hq4 hq5 hg3 hg4 hg5 hr3 hr4 hvq5 HCM HMU HALG
  go_wp2_with fail
  have HR7 := HVQ5
  have HS7 := HS5
  have hin := rInt_calls sb _ q _ HR7.out
  rw [← HDZ.out] at hin
  have HIN := Lib.hid hin
  clear hin
  refine HIN.out.mono ?_
  rintro ev w8 ⟨rfl, hg8⟩
  have HR8 := Lib.hid (HR7.out.gr hg8)
  have HS8 := Lib.hid (KeepS.gr HS7.out hg8)
  obtain ⟨f0, u0, z0, k0⟩ := HS8.out.2.2.2.2 0 (by decide)
  obtain ⟨f1, u1, z1, k1⟩ := HS8.out.2.2.2.2 1 (by decide)
  have HE := Lib.hid (fun x y => two_set w8 (w.heap.size + 1) x y _ _ z0 z1 k0 k1)
  clear hg8
  go_wp2
  (try simp only [Exit.inBlock, Exit.then])
  refine bodyPost_ret (ret_near _ _ (HE.out _ _).1 _ rfl) rfl ?_
  exact ⟨⟨_, rfl, show RN _ _ _ from (HE.out _ _).2.1 _ _ HR8.out⟩, (HE.out _ _).2.2 w HS8.out.1 (by omega)⟩
set_option maxRecDepth 100000 in
set_option maxHeartbeats 8000000 in
theorem near_3eqq (sb : Bool) (vx vy : Value) (a b : Nat) (w : World) (hx : RN w vx a) (hy : RN w vy b) (k : Nat) (ha : a < Dg.D ^ k) (hb : b < Dg.D ^ k) (hk : k ≤ 400) (hb0 : 0 < b) (hc : a % b + a % b = b) (hq : a / b ≠ 0) :
    Calls Tryz.prog 23 #[.agg #[.bool sb, vx, vy], .int .i64 3] w fun e w' => (∃ v, e = .returned (.agg #[.bool (sb && decide (0 < a / b)), v]) ∧ RN w' v (a / b)) ∧ Gr w w' := by
  obtain ⟨ax, lx, cx, rfl⟩ := rn_sl hx
  obtain ⟨ay, ly, cy, rfl⟩ := rn_sl hy
  have h1 := heap_alloc_new w (.cells #[.bool sb, .slice ax lx cx, .slice ay ly cy] 29)
  have h3 := heap_alloc_new (w.alloc (.cells #[.bool sb, .slice ax lx cx, .slice ay ly cy] 29)) (.cells #[.bool false, .slice none 0 0] 27)
  rw [size_al] at h3
  have g1 : Gr w (w.alloc (.cells #[.bool sb, .slice ax lx cx, .slice ay ly cy] 29)) := (Gr.rf w).alloc (Nat.le_refl _) _
  have g2 : Gr (w.alloc (.cells #[.bool sb, .slice ax lx cx, .slice ay ly cy] 29)) ((w.alloc (.cells #[.bool sb, .slice ax lx cx, .slice ay ly cy] 29)).alloc (.cells #[.bool false, .slice none 0 0] 27)) := (Gr.rf _).alloc (Nat.le_refl _) _
  have hsz : ((w.alloc (.cells #[.bool sb, .slice ax lx cx, .slice ay ly cy] 29)).alloc (.cells #[.bool false, .slice none 0 0] 27)).heap.size = w.heap.size + 2 := by rw [size_al, size_al]
  have h1 := g2.heap h1
  have hS : KeepS w (w.heap.size + 1) 2 [(w.heap.size, 0, .bool sb), (w.heap.size, 1, .slice ax lx cx), (w.heap.size, 2, .slice ay ly cy)] [(.slice ax lx cx, a), (.slice ay ly cy, b)] ((w.alloc (.cells #[.bool sb, .slice ax lx cx, .slice ay ly cy] 29)).alloc (.cells #[.bool false, .slice none 0 0] 27)) := by
    refine ⟨g1.tr g2, fun p hp => ?_, fun p hp => ?_, ⟨by omega, by omega⟩, fun j hj => ?_⟩
    · simp only [List.mem_cons, List.not_mem_nil, or_false] at hp
      rcases hp with rfl | rfl
      · exact hx.gr (g1.tr g2)
      · exact hy.gr (g1.tr g2)
    · simp only [List.mem_cons, List.not_mem_nil, or_false] at hp
      rcases hp with rfl | rfl | rfl
      · exact ⟨heap_cell h1 0, by show w.heap.size ≠ _; omega, by show w.heap.size < _; omega⟩
      · exact ⟨heap_cell h1 1, by show w.heap.size ≠ _; omega, by show w.heap.size < _; omega⟩
      · exact ⟨heap_cell h1 2, by show w.heap.size ≠ _; omega, by show w.heap.size < _; omega⟩
    · rcases j with _ | _ | j
      · exact ⟨heap_frz h3 0, _, heap_cell h3 0, fun n h => by cases h⟩
      · exact ⟨heap_frz h3 1, _, heap_cell h3 1, fun n h => by cases h⟩
      · omega
  have HAL : Hid (∀ w', KeepS w (w.heap.size + 1) 2 [(w.heap.size, 0, .bool sb), (w.heap.size, 1, .slice ax lx cx), (w.heap.size, 2, .slice ay ly cy)] [(.slice ax lx cx, a), (.slice ay ly cy, b)] w' → (KeepS w (w.heap.size + 1) 2 [(w.heap.size, 0, .bool sb), (w.heap.size, 1, .slice ax lx cx), (w.heap.size, 2, .slice ay ly cy)] [(.slice ax lx cx, a), (.slice ay ly cy, b)] w' ∧ w'.cell? ⟨w.heap.size, 0, none⟩ = some (.bool sb) ∧ w'.cell? ⟨w.heap.size, 1, none⟩ = some (.slice ax lx cx) ∧ w'.cell? ⟨w.heap.size, 2, none⟩ = some (.slice ay ly cy))) := Lib.hid (fun w' h => ⟨h, h.cell (w.heap.size, 0, .bool sb) (by simp), h.cell (w.heap.size, 1, .slice ax lx cx) (by simp), h.cell (w.heap.size, 2, .slice ay ly cy) (by simp)⟩)
  have HS := Lib.hid hS
  have hqk : a / b < Dg.D ^ k := b_div ha
  have hrk : a % b < Dg.D ^ k := b_mod ha
  have HDV : Hid (∀ w', KeepS w (w.heap.size + 1) 2 [(w.heap.size, 0, .bool sb), (w.heap.size, 1, .slice ax lx cx), (w.heap.size, 2, .slice ay ly cy)] [(.slice ax lx cx, a), (.slice ay ly cy, b)] w' → Calls Tryz.prog 84 #[.slice ax lx cx, .slice ay ly cy] w' fun e w2 => (∃ q r, e = .returned (.tuple #[q, r]) ∧ RN w2 q (a / b) ∧ RN w2 r (a % b)) ∧ Gr w' w2) := Lib.hid (fun w' h => r_div (h.rn (.slice ax lx cx, a) (by simp)) (h.rn (.slice ay ly cy, b) (by simp)) ha hb (by omega) hb0)
  have HO2 : Hid (∀ w', Calls Tryz.prog 27 #[.int .u64 2] w' fun e w2 => (∃ r, e = .returned r ∧ RN w2 r 2) ∧ Gr w' w2) := Lib.hid (fun w' => r_ofU 2 (by decide) w')
  have HO1 : Hid (∀ w', Calls Tryz.prog 27 #[.int .u64 1] w' fun e w2 => (∃ r, e = .returned r ∧ RN w2 r 1) ∧ Gr w' w2) := Lib.hid (fun w' => r_ofU 1 (by decide) w')
  have HBB := Lib.hid (And.intro hqk hrk)
  have HBD := Lib.hid (And.intro hb hk)
  have HCC := Lib.hid hc
  have HQ0 := Lib.hid hq
  generalize hqe : a / b = q at *
  generalize hre : a % b = r at *
  clear hx hy h1 h3 g1 g2 hsz hS ha hb hb0 hqk hrk hqe hre hc hk hq
  obtain ⟨dz, hdz⟩ : ∃ dz, dz = decide (0 < q) := ⟨_, rfl⟩
  have HDZ := Lib.hid hdz
  rw [← hdz]
  clear hdz
  go_enter Tryz.func23, Tryz.ntmps23
  obtain ⟨_, c0, c1, c2⟩ := HAL.out _ HS.out
  go_wp2_with fail
  generalize (w.alloc (.cells #[.bool sb, .slice ax lx cx, .slice ay ly cy] 29)).alloc (.cells #[.bool false, .slice none 0 0] 27) = wz at *
  refine (HDV.out _ HS.out).mono ?_
  rintro ev w1 ⟨⟨vq, vr, rfl, hvq, hvr⟩, hg1⟩
  obtain ⟨aq, lq, cq, rfl⟩ := rn_sl hvq
  obtain ⟨ar, lr, cr, rfl⟩ := rn_sl hvr
  have HVQ := Lib.hid hvq
  have HVR := Lib.hid hvr
  have HS1 := Lib.hid (KeepS.gr HS.out hg1)
  have HSD := Lib.hid (KeepS.gr HS1.out (Gr.drew (Gr.rf _) 1))
  have HVRD := Lib.hid (HVR.out.gr (Gr.drew (Gr.rf w1) 1))
  have HCM : Hid (∀ w' x, RN w' x (r * 2) → KeepS w (w.heap.size + 1) 2 [(w.heap.size, 0, .bool sb), (w.heap.size, 1, .slice ax lx cx), (w.heap.size, 2, .slice ay ly cy)] [(.slice ax lx cx, a), (.slice ay ly cy, b)] w' → Calls Tryz.prog 37 #[x, .slice ay ly cy] w' fun e w2 => e = .returned (.int .i64 (0)) ∧ Gr w' w2) := Lib.hid (fun w' x h hs => r_cmp (k := k + 1) h (hs.rn (.slice ay ly cy, b) (by simp)) (b_mul HBB.out.2 (show 2 < Dg.D ^ 1 by decide) rfl) (b_up HBD.out.1 (by omega)) (by have := HBD.out.2; omega) (by rw [show r * 2 = b by have := HCC.out; omega]; exact cmpN_eq b))
  have HMU : Hid (∀ w' x, RN w' x 2 → Gr w1.drew w' → Calls Tryz.prog 80 #[.slice ar lr cr, x] w' fun e w2 => (∃ v, e = .returned v ∧ RN w2 v (r * 2)) ∧ Gr w' w2) := Lib.hid (fun w' x h hg => r_mul (k := k + 1) (HVRD.out.gr hg) h (b_up HBB.out.2 (by omega)) (b_up (show 2 < Dg.D ^ 1 by decide) (by omega)) (by have := HBD.out.2; omega))
  clear hvq hvr hg1 c0 c1 c2
  have HALG : Hid (∀ w', KeepS w (w.heap.size + 1) 2 [(w.heap.size, 0, .bool sb), (w.heap.size, 1, .slice ax lx cx), (w.heap.size, 2, .slice ay ly cy)] [(.slice ax lx cx, a), (.slice ay ly cy, b)] w' → Gr w1.drew w' → ((KeepS w (w.heap.size + 1) 2 [(w.heap.size, 0, .bool sb), (w.heap.size, 1, .slice ax lx cx), (w.heap.size, 2, .slice ay ly cy)] [(.slice ax lx cx, a), (.slice ay ly cy, b)] w' ∧ Gr w1.drew w') ∧ w'.cell? ⟨w.heap.size, 0, none⟩ = some (.bool sb) ∧ w'.cell? ⟨w.heap.size, 1, none⟩ = some (.slice ax lx cx) ∧ w'.cell? ⟨w.heap.size, 2, none⟩ = some (.slice ay ly cy))) := Lib.hid (fun w' h hg => ⟨⟨h, hg⟩, (HAL.out w' h).2⟩)
  go_wp2_with fail
  go_region_held3 (fun w' => (KeepS w (w.heap.size + 1) 2 [(w.heap.size, 0, .bool sb), (w.heap.size, 1, .slice ax lx cx), (w.heap.size, 2, .slice ay ly cy)] [(.slice ax lx cx, a), (.slice ay ly cy, b)] w' ∧ Gr w1.drew w') ∧ w'.cell? ⟨w.heap.size, 0, none⟩ = some (.bool sb) ∧ w'.cell? ⟨w.heap.size, 1, none⟩ = some (.slice ax lx cx) ∧ w'.cell? ⟨w.heap.size, 2, none⟩ = some (.slice ay ly cy))
    (first | exact HALG.out _ HSD.out (Gr.rf _) | exact HALG.out _ hs3 hq3 | exact HALG.out _ hs4 hq4 | exact HALG.out _ hs5 hq5 | fail)
    (first
      | (go_at_call 27; go_split_ands; refine (HO2.out _).mono ?_; rintro ev w3 ⟨⟨r3, rfl, hr3⟩, hg3⟩; have hs3 := KeepS.gr (by assumption) hg3; have hq3 : Gr w1.drew w3 := Gr.tr (by assumption) hg3)
      | (go_at_call 80; go_split_ands; refine (HMU.out _ _ hr3 (by assumption)).mono ?_; rintro ev w4 ⟨⟨r4, rfl, hr4⟩, hg4⟩; have hs4 := KeepS.gr (by assumption) hg4; have hq4 : Gr w1.drew w4 := Gr.tr (by assumption) hg4)
      | (go_at_call 37; go_split_ands; refine (HCM.out _ _ hr4 (by assumption)).mono ?_; rintro ev w5 ⟨rfl, hg5⟩; have hs5 := KeepS.gr (by assumption) hg5; have hq5 : Gr w1.drew w5 := Gr.tr (by assumption) hg5))
  have HS5 := Lib.hid hs5
  have hvq5 := HVQ.out.gr ((Gr.drew (Gr.rf w1) 1).tr hq5)
  have HVQ5 := Lib.hid hvq5
  obtain ⟨hlq, hlc, gq, oq, rfl, hgl, hcl⟩ := rn_first hvq5 (Nat.pos_of_ne_zero HQ0.out)
  have hb1 : decide (0 < (lq : Int)) = true := decide_eq_true (by omega)
  have hb1n : decide (0 < lq) = true := decide_eq_true hlq
  have hlqi : (0 : Int) < (lq : Int) := by omega
  obtain ⟨ob, hob, hobn⟩ : ∃ ob : Bool, (((q % Dg.D : Nat) : Int) % 2 == 1) = ob ∧ (q % 2 = 1 ↔ ob = true) := ⟨_, rfl, by rw [← dig_even q]; simp; omega⟩
  generalize q % Dg.D = dq at *
  have HOB := Lib.hid hobn
  clear hobn
  obtain ⟨_, c0, c1, c2⟩ := HAL.out _ HS5.out
  clear hs3 hs4 hs5 hq3 hq4 hq5 hg3 hg4 hg5 hr3 hr4 hvq5 HCM HMU HALG
  go_wp2_with fail
  have HR7 := HVQ5
  have HS7 := HS5
  have hin := rInt_calls sb _ q _ HR7.out
  rw [← HDZ.out] at hin
  have HIN := Lib.hid hin
  clear hin
  refine HIN.out.mono ?_
  rintro ev w8 ⟨rfl, hg8⟩
  have HR8 := Lib.hid (HR7.out.gr hg8)
  have HS8 := Lib.hid (KeepS.gr HS7.out hg8)
  obtain ⟨f0, u0, z0, k0⟩ := HS8.out.2.2.2.2 0 (by decide)
  obtain ⟨f1, u1, z1, k1⟩ := HS8.out.2.2.2.2 1 (by decide)
  have HE := Lib.hid (fun x y => two_set w8 (w.heap.size + 1) x y _ _ z0 z1 k0 k1)
  clear hg8
  go_wp2
  (try simp only [Exit.inBlock, Exit.then])
  refine bodyPost_ret (ret_near _ _ (HE.out _ _).1 _ rfl) rfl ?_
  exact ⟨⟨_, rfl, show RN _ _ _ from (HE.out _ _).2.1 _ _ HR8.out⟩, (HE.out _ _).2.2 w HS8.out.1 (by omega)⟩
set_option maxRecDepth 100000 in
set_option maxHeartbeats 8000000 in
theorem near_3gtz (sb : Bool) (vx vy : Value) (a b : Nat) (w : World) (hx : RN w vx a) (hy : RN w vy b) (k : Nat) (ha : a < Dg.D ^ k) (hb : b < Dg.D ^ k) (hk : k ≤ 400) (hb0 : 0 < b) (hc : a % b + a % b > b) (hq : a / b = 0) :
    Calls Tryz.prog 23 #[.agg #[.bool sb, vx, vy], .int .i64 3] w fun e w' => (∃ v, e = .returned (.agg #[.bool (sb && decide (0 < a / b)), v]) ∧ RN w' v (a / b)) ∧ Gr w w' := by
  obtain ⟨ax, lx, cx, rfl⟩ := rn_sl hx
  obtain ⟨ay, ly, cy, rfl⟩ := rn_sl hy
  have h1 := heap_alloc_new w (.cells #[.bool sb, .slice ax lx cx, .slice ay ly cy] 29)
  have h3 := heap_alloc_new (w.alloc (.cells #[.bool sb, .slice ax lx cx, .slice ay ly cy] 29)) (.cells #[.bool false, .slice none 0 0] 27)
  rw [size_al] at h3
  have g1 : Gr w (w.alloc (.cells #[.bool sb, .slice ax lx cx, .slice ay ly cy] 29)) := (Gr.rf w).alloc (Nat.le_refl _) _
  have g2 : Gr (w.alloc (.cells #[.bool sb, .slice ax lx cx, .slice ay ly cy] 29)) ((w.alloc (.cells #[.bool sb, .slice ax lx cx, .slice ay ly cy] 29)).alloc (.cells #[.bool false, .slice none 0 0] 27)) := (Gr.rf _).alloc (Nat.le_refl _) _
  have hsz : ((w.alloc (.cells #[.bool sb, .slice ax lx cx, .slice ay ly cy] 29)).alloc (.cells #[.bool false, .slice none 0 0] 27)).heap.size = w.heap.size + 2 := by rw [size_al, size_al]
  have h1 := g2.heap h1
  have hS : KeepS w (w.heap.size + 1) 2 [(w.heap.size, 0, .bool sb), (w.heap.size, 1, .slice ax lx cx), (w.heap.size, 2, .slice ay ly cy)] [(.slice ax lx cx, a), (.slice ay ly cy, b)] ((w.alloc (.cells #[.bool sb, .slice ax lx cx, .slice ay ly cy] 29)).alloc (.cells #[.bool false, .slice none 0 0] 27)) := by
    refine ⟨g1.tr g2, fun p hp => ?_, fun p hp => ?_, ⟨by omega, by omega⟩, fun j hj => ?_⟩
    · simp only [List.mem_cons, List.not_mem_nil, or_false] at hp
      rcases hp with rfl | rfl
      · exact hx.gr (g1.tr g2)
      · exact hy.gr (g1.tr g2)
    · simp only [List.mem_cons, List.not_mem_nil, or_false] at hp
      rcases hp with rfl | rfl | rfl
      · exact ⟨heap_cell h1 0, by show w.heap.size ≠ _; omega, by show w.heap.size < _; omega⟩
      · exact ⟨heap_cell h1 1, by show w.heap.size ≠ _; omega, by show w.heap.size < _; omega⟩
      · exact ⟨heap_cell h1 2, by show w.heap.size ≠ _; omega, by show w.heap.size < _; omega⟩
    · rcases j with _ | _ | j
      · exact ⟨heap_frz h3 0, _, heap_cell h3 0, fun n h => by cases h⟩
      · exact ⟨heap_frz h3 1, _, heap_cell h3 1, fun n h => by cases h⟩
      · omega
  have HAL : Hid (∀ w', KeepS w (w.heap.size + 1) 2 [(w.heap.size, 0, .bool sb), (w.heap.size, 1, .slice ax lx cx), (w.heap.size, 2, .slice ay ly cy)] [(.slice ax lx cx, a), (.slice ay ly cy, b)] w' → (KeepS w (w.heap.size + 1) 2 [(w.heap.size, 0, .bool sb), (w.heap.size, 1, .slice ax lx cx), (w.heap.size, 2, .slice ay ly cy)] [(.slice ax lx cx, a), (.slice ay ly cy, b)] w' ∧ w'.cell? ⟨w.heap.size, 0, none⟩ = some (.bool sb) ∧ w'.cell? ⟨w.heap.size, 1, none⟩ = some (.slice ax lx cx) ∧ w'.cell? ⟨w.heap.size, 2, none⟩ = some (.slice ay ly cy))) := Lib.hid (fun w' h => ⟨h, h.cell (w.heap.size, 0, .bool sb) (by simp), h.cell (w.heap.size, 1, .slice ax lx cx) (by simp), h.cell (w.heap.size, 2, .slice ay ly cy) (by simp)⟩)
  have HS := Lib.hid hS
  have hqk : a / b < Dg.D ^ k := b_div ha
  have hrk : a % b < Dg.D ^ k := b_mod ha
  have HDV : Hid (∀ w', KeepS w (w.heap.size + 1) 2 [(w.heap.size, 0, .bool sb), (w.heap.size, 1, .slice ax lx cx), (w.heap.size, 2, .slice ay ly cy)] [(.slice ax lx cx, a), (.slice ay ly cy, b)] w' → Calls Tryz.prog 84 #[.slice ax lx cx, .slice ay ly cy] w' fun e w2 => (∃ q r, e = .returned (.tuple #[q, r]) ∧ RN w2 q (a / b) ∧ RN w2 r (a % b)) ∧ Gr w' w2) := Lib.hid (fun w' h => r_div (h.rn (.slice ax lx cx, a) (by simp)) (h.rn (.slice ay ly cy, b) (by simp)) ha hb (by omega) hb0)
  have HO2 : Hid (∀ w', Calls Tryz.prog 27 #[.int .u64 2] w' fun e w2 => (∃ r, e = .returned r ∧ RN w2 r 2) ∧ Gr w' w2) := Lib.hid (fun w' => r_ofU 2 (by decide) w')
  have HO1 : Hid (∀ w', Calls Tryz.prog 27 #[.int .u64 1] w' fun e w2 => (∃ r, e = .returned r ∧ RN w2 r 1) ∧ Gr w' w2) := Lib.hid (fun w' => r_ofU 1 (by decide) w')
  have HBB := Lib.hid (And.intro hqk hrk)
  have HBD := Lib.hid (And.intro hb hk)
  have HCC := Lib.hid hc
  have HQ0 := Lib.hid hq
  generalize hqe : a / b = q at *
  generalize hre : a % b = r at *
  clear hx hy h1 h3 g1 g2 hsz hS ha hb hb0 hqk hrk hqe hre hc hk hq
  obtain ⟨dz, hdz⟩ : ∃ dz, dz = decide (0 < q) := ⟨_, rfl⟩
  have HDZ := Lib.hid hdz
  rw [← hdz]
  clear hdz
  go_enter Tryz.func23, Tryz.ntmps23
  obtain ⟨_, c0, c1, c2⟩ := HAL.out _ HS.out
  go_wp2_with fail
  generalize (w.alloc (.cells #[.bool sb, .slice ax lx cx, .slice ay ly cy] 29)).alloc (.cells #[.bool false, .slice none 0 0] 27) = wz at *
  refine (HDV.out _ HS.out).mono ?_
  rintro ev w1 ⟨⟨vq, vr, rfl, hvq, hvr⟩, hg1⟩
  obtain ⟨aq, lq, cq, rfl⟩ := rn_sl hvq
  obtain ⟨ar, lr, cr, rfl⟩ := rn_sl hvr
  have HVQ := Lib.hid hvq
  have HVR := Lib.hid hvr
  have HS1 := Lib.hid (KeepS.gr HS.out hg1)
  have HSD := Lib.hid (KeepS.gr HS1.out (Gr.drew (Gr.rf _) 1))
  have HVRD := Lib.hid (HVR.out.gr (Gr.drew (Gr.rf w1) 1))
  have HCM : Hid (∀ w' x, RN w' x (r * 2) → KeepS w (w.heap.size + 1) 2 [(w.heap.size, 0, .bool sb), (w.heap.size, 1, .slice ax lx cx), (w.heap.size, 2, .slice ay ly cy)] [(.slice ax lx cx, a), (.slice ay ly cy, b)] w' → Calls Tryz.prog 37 #[x, .slice ay ly cy] w' fun e w2 => e = .returned (.int .i64 (1)) ∧ Gr w' w2) := Lib.hid (fun w' x h hs => r_cmp (k := k + 1) h (hs.rn (.slice ay ly cy, b) (by simp)) (b_mul HBB.out.2 (show 2 < Dg.D ^ 1 by decide) rfl) (b_up HBD.out.1 (by omega)) (by have := HBD.out.2; omega) (cmpN_gt (by have := HCC.out; omega)))
  have HMU : Hid (∀ w' x, RN w' x 2 → Gr w1.drew w' → Calls Tryz.prog 80 #[.slice ar lr cr, x] w' fun e w2 => (∃ v, e = .returned v ∧ RN w2 v (r * 2)) ∧ Gr w' w2) := Lib.hid (fun w' x h hg => r_mul (k := k + 1) (HVRD.out.gr hg) h (b_up HBB.out.2 (by omega)) (b_up (show 2 < Dg.D ^ 1 by decide) (by omega)) (by have := HBD.out.2; omega))
  clear hvq hvr hg1 c0 c1 c2
  have HALG : Hid (∀ w', KeepS w (w.heap.size + 1) 2 [(w.heap.size, 0, .bool sb), (w.heap.size, 1, .slice ax lx cx), (w.heap.size, 2, .slice ay ly cy)] [(.slice ax lx cx, a), (.slice ay ly cy, b)] w' → Gr w1.drew w' → ((KeepS w (w.heap.size + 1) 2 [(w.heap.size, 0, .bool sb), (w.heap.size, 1, .slice ax lx cx), (w.heap.size, 2, .slice ay ly cy)] [(.slice ax lx cx, a), (.slice ay ly cy, b)] w' ∧ Gr w1.drew w') ∧ w'.cell? ⟨w.heap.size, 0, none⟩ = some (.bool sb) ∧ w'.cell? ⟨w.heap.size, 1, none⟩ = some (.slice ax lx cx) ∧ w'.cell? ⟨w.heap.size, 2, none⟩ = some (.slice ay ly cy))) := Lib.hid (fun w' h hg => ⟨⟨h, hg⟩, (HAL.out w' h).2⟩)
  go_wp2_with fail
  go_region_held3 (fun w' => (KeepS w (w.heap.size + 1) 2 [(w.heap.size, 0, .bool sb), (w.heap.size, 1, .slice ax lx cx), (w.heap.size, 2, .slice ay ly cy)] [(.slice ax lx cx, a), (.slice ay ly cy, b)] w' ∧ Gr w1.drew w') ∧ w'.cell? ⟨w.heap.size, 0, none⟩ = some (.bool sb) ∧ w'.cell? ⟨w.heap.size, 1, none⟩ = some (.slice ax lx cx) ∧ w'.cell? ⟨w.heap.size, 2, none⟩ = some (.slice ay ly cy))
    (first | exact HALG.out _ HSD.out (Gr.rf _) | exact HALG.out _ hs3 hq3 | exact HALG.out _ hs4 hq4 | exact HALG.out _ hs5 hq5 | fail)
    (first
      | (go_at_call 27; go_split_ands; refine (HO2.out _).mono ?_; rintro ev w3 ⟨⟨r3, rfl, hr3⟩, hg3⟩; have hs3 := KeepS.gr (by assumption) hg3; have hq3 : Gr w1.drew w3 := Gr.tr (by assumption) hg3)
      | (go_at_call 80; go_split_ands; refine (HMU.out _ _ hr3 (by assumption)).mono ?_; rintro ev w4 ⟨⟨r4, rfl, hr4⟩, hg4⟩; have hs4 := KeepS.gr (by assumption) hg4; have hq4 : Gr w1.drew w4 := Gr.tr (by assumption) hg4)
      | (go_at_call 37; go_split_ands; refine (HCM.out _ _ hr4 (by assumption)).mono ?_; rintro ev w5 ⟨rfl, hg5⟩; have hs5 := KeepS.gr (by assumption) hg5; have hq5 : Gr w1.drew w5 := Gr.tr (by assumption) hg5))
  have HS5 := Lib.hid hs5
  have hvq5 := HVQ.out.gr ((Gr.drew (Gr.rf w1) 1).tr hq5)
  have HVQ5 := Lib.hid hvq5
  have hlq : lq = 0 := by have h1 := (digs_len0 q).2 HQ0.out; obtain ⟨x, c, h2⟩ := rn_len hvq5; injection h2 with _ h2; omega
  have hb1 : decide (0 < (lq : Int)) = false := decide_eq_false (by omega)
  have hb1n : decide (0 < lq) = false := decide_eq_false (by omega)
  clear hlq
  obtain ⟨_, c0, c1, c2⟩ := HAL.out _ HS5.out
  clear hs3 hs4 hs5 hq3 hq4 hq5 hg3 hg4 hg5 hr3 hr4 hvq5 HCM HMU HALG
  go_wp2_with fail
  have HR7 := HVQ5
  have HS7 := HS5
  have hin := rInt_calls sb _ q _ HR7.out
  rw [← HDZ.out] at hin
  have HIN := Lib.hid hin
  clear hin
  refine HIN.out.mono ?_
  rintro ev w8 ⟨rfl, hg8⟩
  have HR8 := Lib.hid (HR7.out.gr hg8)
  have HS8 := Lib.hid (KeepS.gr HS7.out hg8)
  obtain ⟨f0, u0, z0, k0⟩ := HS8.out.2.2.2.2 0 (by decide)
  obtain ⟨f1, u1, z1, k1⟩ := HS8.out.2.2.2.2 1 (by decide)
  have HE := Lib.hid (fun x y => two_set w8 (w.heap.size + 1) x y _ _ z0 z1 k0 k1)
  clear hg8
  go_wp2
  (try simp only [Exit.inBlock, Exit.then])
  refine bodyPost_ret (ret_near _ _ (HE.out _ _).1 _ rfl) rfl ?_
  exact ⟨⟨_, rfl, show RN _ _ _ from (HE.out _ _).2.1 _ _ HR8.out⟩, (HE.out _ _).2.2 w HS8.out.1 (by omega)⟩
set_option maxRecDepth 100000 in
set_option maxHeartbeats 8000000 in
theorem near_3gtq (sb : Bool) (vx vy : Value) (a b : Nat) (w : World) (hx : RN w vx a) (hy : RN w vy b) (k : Nat) (ha : a < Dg.D ^ k) (hb : b < Dg.D ^ k) (hk : k ≤ 400) (hb0 : 0 < b) (hc : a % b + a % b > b) (hq : a / b ≠ 0) :
    Calls Tryz.prog 23 #[.agg #[.bool sb, vx, vy], .int .i64 3] w fun e w' => (∃ v, e = .returned (.agg #[.bool (sb && decide (0 < a / b)), v]) ∧ RN w' v (a / b)) ∧ Gr w w' := by
  obtain ⟨ax, lx, cx, rfl⟩ := rn_sl hx
  obtain ⟨ay, ly, cy, rfl⟩ := rn_sl hy
  have h1 := heap_alloc_new w (.cells #[.bool sb, .slice ax lx cx, .slice ay ly cy] 29)
  have h3 := heap_alloc_new (w.alloc (.cells #[.bool sb, .slice ax lx cx, .slice ay ly cy] 29)) (.cells #[.bool false, .slice none 0 0] 27)
  rw [size_al] at h3
  have g1 : Gr w (w.alloc (.cells #[.bool sb, .slice ax lx cx, .slice ay ly cy] 29)) := (Gr.rf w).alloc (Nat.le_refl _) _
  have g2 : Gr (w.alloc (.cells #[.bool sb, .slice ax lx cx, .slice ay ly cy] 29)) ((w.alloc (.cells #[.bool sb, .slice ax lx cx, .slice ay ly cy] 29)).alloc (.cells #[.bool false, .slice none 0 0] 27)) := (Gr.rf _).alloc (Nat.le_refl _) _
  have hsz : ((w.alloc (.cells #[.bool sb, .slice ax lx cx, .slice ay ly cy] 29)).alloc (.cells #[.bool false, .slice none 0 0] 27)).heap.size = w.heap.size + 2 := by rw [size_al, size_al]
  have h1 := g2.heap h1
  have hS : KeepS w (w.heap.size + 1) 2 [(w.heap.size, 0, .bool sb), (w.heap.size, 1, .slice ax lx cx), (w.heap.size, 2, .slice ay ly cy)] [(.slice ax lx cx, a), (.slice ay ly cy, b)] ((w.alloc (.cells #[.bool sb, .slice ax lx cx, .slice ay ly cy] 29)).alloc (.cells #[.bool false, .slice none 0 0] 27)) := by
    refine ⟨g1.tr g2, fun p hp => ?_, fun p hp => ?_, ⟨by omega, by omega⟩, fun j hj => ?_⟩
    · simp only [List.mem_cons, List.not_mem_nil, or_false] at hp
      rcases hp with rfl | rfl
      · exact hx.gr (g1.tr g2)
      · exact hy.gr (g1.tr g2)
    · simp only [List.mem_cons, List.not_mem_nil, or_false] at hp
      rcases hp with rfl | rfl | rfl
      · exact ⟨heap_cell h1 0, by show w.heap.size ≠ _; omega, by show w.heap.size < _; omega⟩
      · exact ⟨heap_cell h1 1, by show w.heap.size ≠ _; omega, by show w.heap.size < _; omega⟩
      · exact ⟨heap_cell h1 2, by show w.heap.size ≠ _; omega, by show w.heap.size < _; omega⟩
    · rcases j with _ | _ | j
      · exact ⟨heap_frz h3 0, _, heap_cell h3 0, fun n h => by cases h⟩
      · exact ⟨heap_frz h3 1, _, heap_cell h3 1, fun n h => by cases h⟩
      · omega
  have HAL : Hid (∀ w', KeepS w (w.heap.size + 1) 2 [(w.heap.size, 0, .bool sb), (w.heap.size, 1, .slice ax lx cx), (w.heap.size, 2, .slice ay ly cy)] [(.slice ax lx cx, a), (.slice ay ly cy, b)] w' → (KeepS w (w.heap.size + 1) 2 [(w.heap.size, 0, .bool sb), (w.heap.size, 1, .slice ax lx cx), (w.heap.size, 2, .slice ay ly cy)] [(.slice ax lx cx, a), (.slice ay ly cy, b)] w' ∧ w'.cell? ⟨w.heap.size, 0, none⟩ = some (.bool sb) ∧ w'.cell? ⟨w.heap.size, 1, none⟩ = some (.slice ax lx cx) ∧ w'.cell? ⟨w.heap.size, 2, none⟩ = some (.slice ay ly cy))) := Lib.hid (fun w' h => ⟨h, h.cell (w.heap.size, 0, .bool sb) (by simp), h.cell (w.heap.size, 1, .slice ax lx cx) (by simp), h.cell (w.heap.size, 2, .slice ay ly cy) (by simp)⟩)
  have HS := Lib.hid hS
  have hqk : a / b < Dg.D ^ k := b_div ha
  have hrk : a % b < Dg.D ^ k := b_mod ha
  have HDV : Hid (∀ w', KeepS w (w.heap.size + 1) 2 [(w.heap.size, 0, .bool sb), (w.heap.size, 1, .slice ax lx cx), (w.heap.size, 2, .slice ay ly cy)] [(.slice ax lx cx, a), (.slice ay ly cy, b)] w' → Calls Tryz.prog 84 #[.slice ax lx cx, .slice ay ly cy] w' fun e w2 => (∃ q r, e = .returned (.tuple #[q, r]) ∧ RN w2 q (a / b) ∧ RN w2 r (a % b)) ∧ Gr w' w2) := Lib.hid (fun w' h => r_div (h.rn (.slice ax lx cx, a) (by simp)) (h.rn (.slice ay ly cy, b) (by simp)) ha hb (by omega) hb0)
  have HO2 : Hid (∀ w', Calls Tryz.prog 27 #[.int .u64 2] w' fun e w2 => (∃ r, e = .returned r ∧ RN w2 r 2) ∧ Gr w' w2) := Lib.hid (fun w' => r_ofU 2 (by decide) w')
  have HO1 : Hid (∀ w', Calls Tryz.prog 27 #[.int .u64 1] w' fun e w2 => (∃ r, e = .returned r ∧ RN w2 r 1) ∧ Gr w' w2) := Lib.hid (fun w' => r_ofU 1 (by decide) w')
  have HBB := Lib.hid (And.intro hqk hrk)
  have HBD := Lib.hid (And.intro hb hk)
  have HCC := Lib.hid hc
  have HQ0 := Lib.hid hq
  generalize hqe : a / b = q at *
  generalize hre : a % b = r at *
  clear hx hy h1 h3 g1 g2 hsz hS ha hb hb0 hqk hrk hqe hre hc hk hq
  obtain ⟨dz, hdz⟩ : ∃ dz, dz = decide (0 < q) := ⟨_, rfl⟩
  have HDZ := Lib.hid hdz
  rw [← hdz]
  clear hdz
  go_enter Tryz.func23, Tryz.ntmps23
  obtain ⟨_, c0, c1, c2⟩ := HAL.out _ HS.out
  go_wp2_with fail
  generalize (w.alloc (.cells #[.bool sb, .slice ax lx cx, .slice ay ly cy] 29)).alloc (.cells #[.bool false, .slice none 0 0] 27) = wz at *
  refine (HDV.out _ HS.out).mono ?_
  rintro ev w1 ⟨⟨vq, vr, rfl, hvq, hvr⟩, hg1⟩
  obtain ⟨aq, lq, cq, rfl⟩ := rn_sl hvq
  obtain ⟨ar, lr, cr, rfl⟩ := rn_sl hvr
  have HVQ := Lib.hid hvq
  have HVR := Lib.hid hvr
  have HS1 := Lib.hid (KeepS.gr HS.out hg1)
  have HSD := Lib.hid (KeepS.gr HS1.out (Gr.drew (Gr.rf _) 1))
  have HVRD := Lib.hid (HVR.out.gr (Gr.drew (Gr.rf w1) 1))
  have HCM : Hid (∀ w' x, RN w' x (r * 2) → KeepS w (w.heap.size + 1) 2 [(w.heap.size, 0, .bool sb), (w.heap.size, 1, .slice ax lx cx), (w.heap.size, 2, .slice ay ly cy)] [(.slice ax lx cx, a), (.slice ay ly cy, b)] w' → Calls Tryz.prog 37 #[x, .slice ay ly cy] w' fun e w2 => e = .returned (.int .i64 (1)) ∧ Gr w' w2) := Lib.hid (fun w' x h hs => r_cmp (k := k + 1) h (hs.rn (.slice ay ly cy, b) (by simp)) (b_mul HBB.out.2 (show 2 < Dg.D ^ 1 by decide) rfl) (b_up HBD.out.1 (by omega)) (by have := HBD.out.2; omega) (cmpN_gt (by have := HCC.out; omega)))
  have HMU : Hid (∀ w' x, RN w' x 2 → Gr w1.drew w' → Calls Tryz.prog 80 #[.slice ar lr cr, x] w' fun e w2 => (∃ v, e = .returned v ∧ RN w2 v (r * 2)) ∧ Gr w' w2) := Lib.hid (fun w' x h hg => r_mul (k := k + 1) (HVRD.out.gr hg) h (b_up HBB.out.2 (by omega)) (b_up (show 2 < Dg.D ^ 1 by decide) (by omega)) (by have := HBD.out.2; omega))
  clear hvq hvr hg1 c0 c1 c2
  have HALG : Hid (∀ w', KeepS w (w.heap.size + 1) 2 [(w.heap.size, 0, .bool sb), (w.heap.size, 1, .slice ax lx cx), (w.heap.size, 2, .slice ay ly cy)] [(.slice ax lx cx, a), (.slice ay ly cy, b)] w' → Gr w1.drew w' → ((KeepS w (w.heap.size + 1) 2 [(w.heap.size, 0, .bool sb), (w.heap.size, 1, .slice ax lx cx), (w.heap.size, 2, .slice ay ly cy)] [(.slice ax lx cx, a), (.slice ay ly cy, b)] w' ∧ Gr w1.drew w') ∧ w'.cell? ⟨w.heap.size, 0, none⟩ = some (.bool sb) ∧ w'.cell? ⟨w.heap.size, 1, none⟩ = some (.slice ax lx cx) ∧ w'.cell? ⟨w.heap.size, 2, none⟩ = some (.slice ay ly cy))) := Lib.hid (fun w' h hg => ⟨⟨h, hg⟩, (HAL.out w' h).2⟩)
  go_wp2_with fail
  go_region_held3 (fun w' => (KeepS w (w.heap.size + 1) 2 [(w.heap.size, 0, .bool sb), (w.heap.size, 1, .slice ax lx cx), (w.heap.size, 2, .slice ay ly cy)] [(.slice ax lx cx, a), (.slice ay ly cy, b)] w' ∧ Gr w1.drew w') ∧ w'.cell? ⟨w.heap.size, 0, none⟩ = some (.bool sb) ∧ w'.cell? ⟨w.heap.size, 1, none⟩ = some (.slice ax lx cx) ∧ w'.cell? ⟨w.heap.size, 2, none⟩ = some (.slice ay ly cy))
    (first | exact HALG.out _ HSD.out (Gr.rf _) | exact HALG.out _ hs3 hq3 | exact HALG.out _ hs4 hq4 | exact HALG.out _ hs5 hq5 | fail)
    (first
      | (go_at_call 27; go_split_ands; refine (HO2.out _).mono ?_; rintro ev w3 ⟨⟨r3, rfl, hr3⟩, hg3⟩; have hs3 := KeepS.gr (by assumption) hg3; have hq3 : Gr w1.drew w3 := Gr.tr (by assumption) hg3)
      | (go_at_call 80; go_split_ands; refine (HMU.out _ _ hr3 (by assumption)).mono ?_; rintro ev w4 ⟨⟨r4, rfl, hr4⟩, hg4⟩; have hs4 := KeepS.gr (by assumption) hg4; have hq4 : Gr w1.drew w4 := Gr.tr (by assumption) hg4)
      | (go_at_call 37; go_split_ands; refine (HCM.out _ _ hr4 (by assumption)).mono ?_; rintro ev w5 ⟨rfl, hg5⟩; have hs5 := KeepS.gr (by assumption) hg5; have hq5 : Gr w1.drew w5 := Gr.tr (by assumption) hg5))
  have HS5 := Lib.hid hs5
  have hvq5 := HVQ.out.gr ((Gr.drew (Gr.rf w1) 1).tr hq5)
  have HVQ5 := Lib.hid hvq5
  obtain ⟨hlq, hlc, gq, oq, rfl, hgl, hcl⟩ := rn_first hvq5 (Nat.pos_of_ne_zero HQ0.out)
  have hb1 : decide (0 < (lq : Int)) = true := decide_eq_true (by omega)
  have hb1n : decide (0 < lq) = true := decide_eq_true hlq
  have hlqi : (0 : Int) < (lq : Int) := by omega
  obtain ⟨ob, hob, hobn⟩ : ∃ ob : Bool, (((q % Dg.D : Nat) : Int) % 2 == 1) = ob ∧ (q % 2 = 1 ↔ ob = true) := ⟨_, rfl, by rw [← dig_even q]; simp; omega⟩
  generalize q % Dg.D = dq at *
  have HOB := Lib.hid hobn
  clear hobn
  obtain ⟨_, c0, c1, c2⟩ := HAL.out _ HS5.out
  clear hs3 hs4 hs5 hq3 hq4 hq5 hg3 hg4 hg5 hr3 hr4 hvq5 HCM HMU HALG
  go_wp2_with fail
  have HR7 := HVQ5
  have HS7 := HS5
  have hin := rInt_calls sb _ q _ HR7.out
  rw [← HDZ.out] at hin
  have HIN := Lib.hid hin
  clear hin
  refine HIN.out.mono ?_
  rintro ev w8 ⟨rfl, hg8⟩
  have HR8 := Lib.hid (HR7.out.gr hg8)
  have HS8 := Lib.hid (KeepS.gr HS7.out hg8)
  obtain ⟨f0, u0, z0, k0⟩ := HS8.out.2.2.2.2 0 (by decide)
  obtain ⟨f1, u1, z1, k1⟩ := HS8.out.2.2.2.2 1 (by decide)
  have HE := Lib.hid (fun x y => two_set w8 (w.heap.size + 1) x y _ _ z0 z1 k0 k1)
  clear hg8
  go_wp2
  (try simp only [Exit.inBlock, Exit.then])
  refine bodyPost_ret (ret_near _ _ (HE.out _ _).1 _ rfl) rfl ?_
  exact ⟨⟨_, rfl, show RN _ _ _ from (HE.out _ _).2.1 _ _ HR8.out⟩, (HE.out _ _).2.2 w HS8.out.1 (by omega)⟩
/-- rentierref2.Near. -/
theorem rNear_calls (sb : Bool) (vx vy : Value) (a b : Nat) (m : Int) (w : World) (hx : RN w vx a) (hy : RN w vy b) (k : Nat) (ha : a < Dg.D ^ k) (hb : b < Dg.D ^ k) (hk : k ≤ 400) (hb0 : 0 < b) (hm : m = 1 ∨ m = 2 ∨ m = 3) :
    Calls Tryz.prog 23 #[.agg #[.bool sb, vx, vy], .int .i64 m] w fun e w' => (∃ v, e = .returned (.agg #[.bool (sb && decide (0 < roundN a b m)), v]) ∧ RN w' v (roundN a b m)) ∧ Gr w w' := by
  rcases hm with rfl | rfl | rfl
  · rcases Nat.lt_trichotomy (a % b + a % b) b with hc | hc | hc
    · by_cases hq : a / b = 0
      · rw [roundN_no a b 1 (by omega)]; exact near_1ltz sb vx vy a b w hx hy k ha hb hk hb0 hc hq
      · rw [roundN_no a b 1 (by omega)]; exact near_1ltq sb vx vy a b w hx hy k ha hb hk hb0 hc hq
    · by_cases hq : a / b = 0
      · rw [roundN_up a b 1 (⟨.inr ⟨hc, .inl rfl⟩, by decide⟩)]; exact near_1eqz sb vx vy a b w hx hy k ha hb hk hb0 hc hq
      · rw [roundN_up a b 1 (⟨.inr ⟨hc, .inl rfl⟩, by decide⟩)]; exact near_1eqq sb vx vy a b w hx hy k ha hb hk hb0 hc hq
    · by_cases hq : a / b = 0
      · rw [roundN_up a b 1 (⟨.inl hc, by decide⟩)]; exact near_1gtz sb vx vy a b w hx hy k ha hb hk hb0 hc hq
      · rw [roundN_up a b 1 (⟨.inl hc, by decide⟩)]; exact near_1gtq sb vx vy a b w hx hy k ha hb hk hb0 hc hq
  · rcases Nat.lt_trichotomy (a % b + a % b) b with hc | hc | hc
    · by_cases hq : a / b = 0
      · rw [roundN_no a b 2 (by omega)]; exact near_2ltz sb vx vy a b w hx hy k ha hb hk hb0 hc hq
      · rw [roundN_no a b 2 (by omega)]; exact near_2ltq sb vx vy a b w hx hy k ha hb hk hb0 hc hq
    · by_cases hq : a / b = 0
      · rw [roundN_no a b 2 (by omega)]; exact near_2eqz sb vx vy a b w hx hy k ha hb hk hb0 hc hq
      · rcases Nat.mod_two_eq_zero_or_one (a / b) with ho | ho
        · rw [roundN_no a b 2 (by omega)]; exact near_2eqq0 sb vx vy a b w hx hy k ha hb hk hb0 hc hq ho
        · rw [roundN_up a b 2 (by omega)]; exact near_2eqq1 sb vx vy a b w hx hy k ha hb hk hb0 hc hq ho
    · by_cases hq : a / b = 0
      · rw [roundN_up a b 2 (⟨.inl hc, by decide⟩)]; exact near_2gtz sb vx vy a b w hx hy k ha hb hk hb0 hc hq
      · rw [roundN_up a b 2 (⟨.inl hc, by decide⟩)]; exact near_2gtq sb vx vy a b w hx hy k ha hb hk hb0 hc hq
  · rcases Nat.lt_trichotomy (a % b + a % b) b with hc | hc | hc
    · by_cases hq : a / b = 0
      · rw [roundN_no a b 3 (fun h => h.2 rfl)]; exact near_3ltz sb vx vy a b w hx hy k ha hb hk hb0 hc hq
      · rw [roundN_no a b 3 (fun h => h.2 rfl)]; exact near_3ltq sb vx vy a b w hx hy k ha hb hk hb0 hc hq
    · by_cases hq : a / b = 0
      · rw [roundN_no a b 3 (fun h => h.2 rfl)]; exact near_3eqz sb vx vy a b w hx hy k ha hb hk hb0 hc hq
      · rw [roundN_no a b 3 (fun h => h.2 rfl)]; exact near_3eqq sb vx vy a b w hx hy k ha hb hk hb0 hc hq
    · by_cases hq : a / b = 0
      · rw [roundN_no a b 3 (fun h => h.2 rfl)]; exact near_3gtz sb vx vy a b w hx hy k ha hb hk hb0 hc hq
      · rw [roundN_no a b 3 (fun h => h.2 rfl)]; exact near_3gtq sb vx vy a b w hx hy k ha hb hk hb0 hc hq
end Go.Proofs.YtcjjgdoafkdeaaaGreatDoor
