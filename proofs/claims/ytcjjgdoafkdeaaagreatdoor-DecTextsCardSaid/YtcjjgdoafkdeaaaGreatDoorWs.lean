/- Layer 4's reference: Times, Prod by contract. -/
import Derived.Test.YtcjjgdoafkdeaaaGreatDoorWr
namespace Go.Proofs.YtcjjgdoafkdeaaaGreatDoor
open Go.RowKit Go.Extern.Stop Go.Stop Go.Extern Go.Sort
set_option linter.unusedVariables false
set_option linter.unusedSimpArgs false

theorem ret_times {W : World} {bb : Nat} (x y : Value) (hW : W.rangeAt bb 0 [x, y]) (tmps : Array Value) (h2 : tmps.getD 4 undef = .pointer (some ⟨bb, 0, none⟩)) :
    (results Tryz.f86 tmps).run Tryz.prog W = .ok (.agg #[x, y]) W := by
  have hl := run_loadVar_mid (P := Tryz.prog) W bb 0 27 [x, y] _ hW Tryz.underlying27 rfl (by kernel_rfl)
  unfold results
  rw [show Tryz.f86.results = #[.cell 4 27] from rfl]
  have k2 : tmps[4]?.getD undef = .pointer (some ⟨bb, 0, none⟩) := by simpa using h2
  simp [k2, asAddr, hl, Sem.run_bind, Sem.run_pure]
theorem ret_prod {W : World} {bb : Nat} (x y z : Value) (hW : W.rangeAt bb 0 [x, y, z]) (tmps : Array Value) (h2 : tmps.getD 4 undef = .pointer (some ⟨bb, 0, none⟩)) :
    (results Tryz.f25 tmps).run Tryz.prog W = .ok (.agg #[x, y, z]) W := by
  have hl := run_loadVar_mid (P := Tryz.prog) W bb 0 29 [x, y, z] _ hW Tryz.underlying29 rfl (by kernel_rfl)
  unfold results
  rw [show Tryz.f25.results = #[.cell 4 29] from rfl]
  have k2 : tmps[4]?.getD undef = .pointer (some ⟨bb, 0, none⟩) := by simpa using h2
  simp [k2, asAddr, hl, Sem.run_bind, Sem.run_pure]
theorem rn_sl {w : World} {v : Value} {n : Nat} (h : RN w v n) : ∃ x l c, v = .slice x l c := by
  obtain ⟨x, c, h⟩ := rn_len h
  exact ⟨x, _, c, h⟩
set_option maxRecDepth 100000 in
set_option maxHeartbeats 8000000 in
/-- rentierref2.Times. -/
theorem rTimes_calls (sx sy : Bool) (vx vy : Value) (a b : Nat) (w : World) (hx : RN w vx a) (hy : RN w vy b) (k : Nat) (ha : a < Dg.D ^ k) (hb : b < Dg.D ^ k) (hk : k ≤ 500) :
    Calls Tryz.prog 86 #[.agg #[.bool sx, vx], .agg #[.bool sy, vy]] w fun e w' => (∃ v, e = .returned (.agg #[.bool ((sx != sy) && decide (0 < a * b)), v]) ∧ RN w' v (a * b)) ∧ Gr w w' := by
  obtain ⟨ax, lx, cx, rfl⟩ := rn_sl hx
  obtain ⟨ay, ly, cy, rfl⟩ := rn_sl hy
  have h1 := heap_alloc_new w (.cells #[.bool sx, .slice ax lx cx] 27)
  have h2 := heap_alloc_new (w.alloc (.cells #[.bool sx, .slice ax lx cx] 27)) (.cells #[.bool sy, .slice ay ly cy] 27)
  have h3 := heap_alloc_new ((w.alloc (.cells #[.bool sx, .slice ax lx cx] 27)).alloc (.cells #[.bool sy, .slice ay ly cy] 27)) (.cells #[.bool false, .slice none 0 0] 27)
  rw [size_al] at h2 h3
  rw [size_al] at h3
  have g1 : Gr w (w.alloc (.cells #[.bool sx, .slice ax lx cx] 27)) := (Gr.rf w).alloc (Nat.le_refl _) _
  have g2 : Gr (w.alloc (.cells #[.bool sx, .slice ax lx cx] 27)) ((w.alloc (.cells #[.bool sx, .slice ax lx cx] 27)).alloc (.cells #[.bool sy, .slice ay ly cy] 27)) := (Gr.rf _).alloc (Nat.le_refl _) _
  have g3 : Gr ((w.alloc (.cells #[.bool sx, .slice ax lx cx] 27)).alloc (.cells #[.bool sy, .slice ay ly cy] 27)) (((w.alloc (.cells #[.bool sx, .slice ax lx cx] 27)).alloc (.cells #[.bool sy, .slice ay ly cy] 27)).alloc (.cells #[.bool false, .slice none 0 0] 27)) := (Gr.rf _).alloc (Nat.le_refl _) _
  have hsz : (((w.alloc (.cells #[.bool sx, .slice ax lx cx] 27)).alloc (.cells #[.bool sy, .slice ay ly cy] 27)).alloc (.cells #[.bool false, .slice none 0 0] 27)).heap.size = w.heap.size + 3 := by rw [size_al, size_al, size_al]
  have h1 := (g2.tr g3).heap h1
  have h2 := g3.heap h2
  have hS : KeepS w (w.heap.size + 2) 2 [(w.heap.size, 0, .bool sx), (w.heap.size, 1, .slice ax lx cx), (w.heap.size + 1, 0, .bool sy), (w.heap.size + 1, 1, .slice ay ly cy)] [(.slice ax lx cx, a), (.slice ay ly cy, b)] (((w.alloc (.cells #[.bool sx, .slice ax lx cx] 27)).alloc (.cells #[.bool sy, .slice ay ly cy] 27)).alloc (.cells #[.bool false, .slice none 0 0] 27)) := by
    refine ⟨g1.tr (g2.tr g3), fun p hp => ?_, fun p hp => ?_, ⟨by omega, by omega⟩, fun j hj => ?_⟩
    · simp only [List.mem_cons, List.not_mem_nil, or_false] at hp
      rcases hp with rfl | rfl
      · exact hx.gr (g1.tr (g2.tr g3))
      · exact hy.gr (g1.tr (g2.tr g3))
    · simp only [List.mem_cons, List.not_mem_nil, or_false] at hp
      rcases hp with rfl | rfl | rfl | rfl
      · exact ⟨heap_cell h1 0, by show w.heap.size ≠ _; omega, by show w.heap.size < _; omega⟩
      · exact ⟨heap_cell h1 1, by show w.heap.size ≠ _; omega, by show w.heap.size < _; omega⟩
      · exact ⟨heap_cell h2 0, by show w.heap.size + 1 ≠ _; omega, by show w.heap.size + 1 < _; omega⟩
      · exact ⟨heap_cell h2 1, by show w.heap.size + 1 ≠ _; omega, by show w.heap.size + 1 < _; omega⟩
    · rcases j with _ | _ | j
      · exact ⟨heap_frz h3 0, _, heap_cell h3 0, fun n h => by cases h⟩
      · exact ⟨heap_frz h3 1, _, heap_cell h3 1, fun n h => by cases h⟩
      · omega
  have HSD := Lib.hid (KeepS.gr hS (Gr.drew (Gr.rf _) 1))
  have HAL : Hid (∀ w', KeepS w (w.heap.size + 2) 2 [(w.heap.size, 0, .bool sx), (w.heap.size, 1, .slice ax lx cx), (w.heap.size + 1, 0, .bool sy), (w.heap.size + 1, 1, .slice ay ly cy)] [(.slice ax lx cx, a), (.slice ay ly cy, b)] w' → (KeepS w (w.heap.size + 2) 2 [(w.heap.size, 0, .bool sx), (w.heap.size, 1, .slice ax lx cx), (w.heap.size + 1, 0, .bool sy), (w.heap.size + 1, 1, .slice ay ly cy)] [(.slice ax lx cx, a), (.slice ay ly cy, b)] w' ∧ w'.cell? ⟨w.heap.size, 0, none⟩ = some (.bool sx) ∧ w'.cell? ⟨w.heap.size, 1, none⟩ = some (.slice ax lx cx) ∧ w'.cell? ⟨w.heap.size + 1, 0, none⟩ = some (.bool sy) ∧ w'.cell? ⟨w.heap.size + 1, 1, none⟩ = some (.slice ay ly cy))) := Lib.hid (fun w' h => ⟨h, h.cell (w.heap.size, 0, .bool sx) (by simp), h.cell (w.heap.size, 1, .slice ax lx cx) (by simp), h.cell (w.heap.size + 1, 0, .bool sy) (by simp), h.cell (w.heap.size + 1, 1, .slice ay ly cy) (by simp)⟩)
  have HMU : Hid (∀ w', KeepS w (w.heap.size + 2) 2 [(w.heap.size, 0, .bool sx), (w.heap.size, 1, .slice ax lx cx), (w.heap.size + 1, 0, .bool sy), (w.heap.size + 1, 1, .slice ay ly cy)] [(.slice ax lx cx, a), (.slice ay ly cy, b)] w' → Calls Tryz.prog 80 #[.slice ax lx cx, .slice ay ly cy] w' fun e w2 => (∃ r, e = .returned r ∧ RN w2 r (a * b)) ∧ Gr w' w2) := Lib.hid (fun w' h => r_mul (h.rn (.slice ax lx cx, a) (by simp)) (h.rn (.slice ay ly cy, b) (by simp)) ha hb (by omega))
  have HIN := Lib.hid (fun (r : Value) w' (h : RN w' r (a * b)) => rInt_calls (!(sx == sy)) r (a * b) w' h)
  obtain ⟨dz, hdz⟩ : ∃ dz, dz = decide (0 < a * b) := ⟨_, rfl⟩
  rw [← hdz] at HIN ⊢
  clear hx hy h1 h2 h3 g1 g2 g3 hsz hS hdz ha hb
  go_enter Tryz.func86, Tryz.ntmps86
  go_wp2_with fail
  generalize (((w.alloc (.cells #[.bool sx, .slice ax lx cx] 27)).alloc (.cells #[.bool sy, .slice ay ly cy] 27)).alloc (.cells #[.bool false, .slice none 0 0] 27)) = wz at *
  go_region_held3 (fun w' => KeepS w (w.heap.size + 2) 2 [(w.heap.size, 0, .bool sx), (w.heap.size, 1, .slice ax lx cx), (w.heap.size + 1, 0, .bool sy), (w.heap.size + 1, 1, .slice ay ly cy)] [(.slice ax lx cx, a), (.slice ay ly cy, b)] w' ∧ w'.cell? ⟨w.heap.size, 0, none⟩ = some (.bool sx) ∧ w'.cell? ⟨w.heap.size, 1, none⟩ = some (.slice ax lx cx) ∧ w'.cell? ⟨w.heap.size + 1, 0, none⟩ = some (.bool sy) ∧ w'.cell? ⟨w.heap.size + 1, 1, none⟩ = some (.slice ay ly cy))
    (first | exact HAL.out _ HSD.out | exact HAL.out _ hs3 | exact HAL.out _ hs4 | exact HAL.out _ (KeepS.set (KeepS.set hs4 0 (by decide) _ (fun n h => by cases h)) 1 (by decide) _ (fun n h => by cases h)) | fail)
    (first | (go_at_call 80; go_split_ands; refine (HMU.out _ (by assumption)).mono ?_; rintro ev w3 ⟨⟨r3, rfl, hr3⟩, hg3'⟩; have hs3 := KeepS.gr (by assumption) hg3'; obtain ⟨a3, l3, c3, hr3e⟩ := rn_sl hr3; subst hr3e) | (go_at_call 67; go_split_ands; refine (HIN.out _ _ hr3).mono ?_; rintro ev w4 ⟨rfl, hg4'⟩; have hs4 := KeepS.gr (by assumption) hg4'; have hr4 := hr3.gr hg4'; obtain ⟨f0, u0, c0, k0⟩ := hs4.2.2.2.2 0 (by decide); obtain ⟨f1, u1, c1, k1⟩ := hs4.2.2.2.2 1 (by decide)))
  go_wp2
  (try simp only [Exit.inBlock, Exit.then])
  have HE := Lib.hid (two_set w4 (w.heap.size + 2) (.bool (!(sx == sy) && dz)) (.slice a3 l3 c3) _ _ c0 c1 k0 k1)
  refine bodyPost_ret (ret_times _ _ HE.out.1 _ rfl) rfl ?_
  exact ⟨⟨_, rfl, show RN _ _ _ from HE.out.2.1 _ _ hr4⟩, HE.out.2.2 w hs4.1 (by omega)⟩
set_option maxRecDepth 100000 in
set_option maxHeartbeats 8000000 in
/-- rentierref2.Prod. -/
theorem rProd_calls (sx sy : Bool) (vx vy vz vu : Value) (a b d e : Nat) (w : World) (hx : RN w vx a) (hy : RN w vy b) (hz : RN w vz d) (hu : RN w vu e) (k : Nat) (ha : a < Dg.D ^ k) (hb : b < Dg.D ^ k) (hd : d < Dg.D ^ k) (he : e < Dg.D ^ k) (hk : k ≤ 500) :
    Calls Tryz.prog 25 #[.agg #[.bool sx, vx, vz], .agg #[.bool sy, vy, vu]] w fun ev w' => (∃ v v2, ev = .returned (.agg #[.bool ((sx != sy) && decide (0 < a * b)), v, v2]) ∧ RN w' v (a * b) ∧ RN w' v2 (d * e)) ∧ Gr w w' := by
  obtain ⟨ax, lx, cx, rfl⟩ := rn_sl hx
  obtain ⟨ay, ly, cy, rfl⟩ := rn_sl hy
  obtain ⟨az, lz, cz, rfl⟩ := rn_sl hz
  obtain ⟨au, lu, cu, rfl⟩ := rn_sl hu
  have h1 := heap_alloc_new w (.cells #[.bool sx, .slice ax lx cx, .slice az lz cz] 29)
  have h2 := heap_alloc_new (w.alloc (.cells #[.bool sx, .slice ax lx cx, .slice az lz cz] 29)) (.cells #[.bool sy, .slice ay ly cy, .slice au lu cu] 29)
  have h3 := heap_alloc_new ((w.alloc (.cells #[.bool sx, .slice ax lx cx, .slice az lz cz] 29)).alloc (.cells #[.bool sy, .slice ay ly cy, .slice au lu cu] 29)) (.cells #[.bool false, .slice none 0 0, .slice none 0 0] 29)
  rw [size_al] at h2 h3
  rw [size_al] at h3
  have g1 : Gr w (w.alloc (.cells #[.bool sx, .slice ax lx cx, .slice az lz cz] 29)) := (Gr.rf w).alloc (Nat.le_refl _) _
  have g2 : Gr (w.alloc (.cells #[.bool sx, .slice ax lx cx, .slice az lz cz] 29)) ((w.alloc (.cells #[.bool sx, .slice ax lx cx, .slice az lz cz] 29)).alloc (.cells #[.bool sy, .slice ay ly cy, .slice au lu cu] 29)) := (Gr.rf _).alloc (Nat.le_refl _) _
  have g3 : Gr ((w.alloc (.cells #[.bool sx, .slice ax lx cx, .slice az lz cz] 29)).alloc (.cells #[.bool sy, .slice ay ly cy, .slice au lu cu] 29)) (((w.alloc (.cells #[.bool sx, .slice ax lx cx, .slice az lz cz] 29)).alloc (.cells #[.bool sy, .slice ay ly cy, .slice au lu cu] 29)).alloc (.cells #[.bool false, .slice none 0 0, .slice none 0 0] 29)) := (Gr.rf _).alloc (Nat.le_refl _) _
  have hsz : (((w.alloc (.cells #[.bool sx, .slice ax lx cx, .slice az lz cz] 29)).alloc (.cells #[.bool sy, .slice ay ly cy, .slice au lu cu] 29)).alloc (.cells #[.bool false, .slice none 0 0, .slice none 0 0] 29)).heap.size = w.heap.size + 3 := by rw [size_al, size_al, size_al]
  have h1 := (g2.tr g3).heap h1
  have h2 := g3.heap h2
  have hS : KeepS w (w.heap.size + 2) 3 [(w.heap.size, 0, .bool sx), (w.heap.size, 1, .slice ax lx cx), (w.heap.size, 2, .slice az lz cz), (w.heap.size + 1, 0, .bool sy), (w.heap.size + 1, 1, .slice ay ly cy), (w.heap.size + 1, 2, .slice au lu cu)] [(.slice ax lx cx, a), (.slice ay ly cy, b), (.slice az lz cz, d), (.slice au lu cu, e)] (((w.alloc (.cells #[.bool sx, .slice ax lx cx, .slice az lz cz] 29)).alloc (.cells #[.bool sy, .slice ay ly cy, .slice au lu cu] 29)).alloc (.cells #[.bool false, .slice none 0 0, .slice none 0 0] 29)) := by
    refine ⟨g1.tr (g2.tr g3), fun p hp => ?_, fun p hp => ?_, ⟨by omega, by omega⟩, fun j hj => ?_⟩
    · simp only [List.mem_cons, List.not_mem_nil, or_false] at hp
      rcases hp with rfl | rfl | rfl | rfl
      · exact hx.gr (g1.tr (g2.tr g3))
      · exact hy.gr (g1.tr (g2.tr g3))
      · exact hz.gr (g1.tr (g2.tr g3))
      · exact hu.gr (g1.tr (g2.tr g3))
    · simp only [List.mem_cons, List.not_mem_nil, or_false] at hp
      rcases hp with rfl | rfl | rfl | rfl | rfl | rfl
      · exact ⟨heap_cell h1 0, by show w.heap.size ≠ _; omega, by show w.heap.size < _; omega⟩
      · exact ⟨heap_cell h1 1, by show w.heap.size ≠ _; omega, by show w.heap.size < _; omega⟩
      · exact ⟨heap_cell h1 2, by show w.heap.size ≠ _; omega, by show w.heap.size < _; omega⟩
      · exact ⟨heap_cell h2 0, by show w.heap.size + 1 ≠ _; omega, by show w.heap.size + 1 < _; omega⟩
      · exact ⟨heap_cell h2 1, by show w.heap.size + 1 ≠ _; omega, by show w.heap.size + 1 < _; omega⟩
      · exact ⟨heap_cell h2 2, by show w.heap.size + 1 ≠ _; omega, by show w.heap.size + 1 < _; omega⟩
    · rcases j with _ | _ | _ | j
      · exact ⟨heap_frz h3 0, _, heap_cell h3 0, fun n h => by cases h⟩
      · exact ⟨heap_frz h3 1, _, heap_cell h3 1, fun n h => by cases h⟩
      · exact ⟨heap_frz h3 2, _, heap_cell h3 2, fun n h => by cases h⟩
      · omega
  have HSD := Lib.hid (KeepS.gr hS (Gr.drew (Gr.rf _) 1))
  have HAL : Hid (∀ w', KeepS w (w.heap.size + 2) 3 [(w.heap.size, 0, .bool sx), (w.heap.size, 1, .slice ax lx cx), (w.heap.size, 2, .slice az lz cz), (w.heap.size + 1, 0, .bool sy), (w.heap.size + 1, 1, .slice ay ly cy), (w.heap.size + 1, 2, .slice au lu cu)] [(.slice ax lx cx, a), (.slice ay ly cy, b), (.slice az lz cz, d), (.slice au lu cu, e)] w' → (KeepS w (w.heap.size + 2) 3 [(w.heap.size, 0, .bool sx), (w.heap.size, 1, .slice ax lx cx), (w.heap.size, 2, .slice az lz cz), (w.heap.size + 1, 0, .bool sy), (w.heap.size + 1, 1, .slice ay ly cy), (w.heap.size + 1, 2, .slice au lu cu)] [(.slice ax lx cx, a), (.slice ay ly cy, b), (.slice az lz cz, d), (.slice au lu cu, e)] w' ∧ w'.cell? ⟨w.heap.size, 0, none⟩ = some (.bool sx) ∧ w'.cell? ⟨w.heap.size, 1, none⟩ = some (.slice ax lx cx) ∧ w'.cell? ⟨w.heap.size, 2, none⟩ = some (.slice az lz cz) ∧ w'.cell? ⟨w.heap.size + 1, 0, none⟩ = some (.bool sy) ∧ w'.cell? ⟨w.heap.size + 1, 1, none⟩ = some (.slice ay ly cy) ∧ w'.cell? ⟨w.heap.size + 1, 2, none⟩ = some (.slice au lu cu))) := Lib.hid (fun w' h => ⟨h, h.cell (w.heap.size, 0, .bool sx) (by simp), h.cell (w.heap.size, 1, .slice ax lx cx) (by simp), h.cell (w.heap.size, 2, .slice az lz cz) (by simp), h.cell (w.heap.size + 1, 0, .bool sy) (by simp), h.cell (w.heap.size + 1, 1, .slice ay ly cy) (by simp), h.cell (w.heap.size + 1, 2, .slice au lu cu) (by simp)⟩)
  have HTI : Hid (∀ w', KeepS w (w.heap.size + 2) 3 [(w.heap.size, 0, .bool sx), (w.heap.size, 1, .slice ax lx cx), (w.heap.size, 2, .slice az lz cz), (w.heap.size + 1, 0, .bool sy), (w.heap.size + 1, 1, .slice ay ly cy), (w.heap.size + 1, 2, .slice au lu cu)] [(.slice ax lx cx, a), (.slice ay ly cy, b), (.slice az lz cz, d), (.slice au lu cu, e)] w' → Calls Tryz.prog 86 #[.agg #[.bool sx, .slice ax lx cx], .agg #[.bool sy, .slice ay ly cy]] w' fun e w2 => (∃ v, e = .returned (.agg #[.bool ((sx != sy) && decide (0 < a * b)), v]) ∧ RN w2 v (a * b)) ∧ Gr w' w2) := Lib.hid (fun w' h => rTimes_calls sx sy _ _ a b w' (h.rn (.slice ax lx cx, a) (by simp)) (h.rn (.slice ay ly cy, b) (by simp)) k ha hb hk)
  have HMU : Hid (∀ w', KeepS w (w.heap.size + 2) 3 [(w.heap.size, 0, .bool sx), (w.heap.size, 1, .slice ax lx cx), (w.heap.size, 2, .slice az lz cz), (w.heap.size + 1, 0, .bool sy), (w.heap.size + 1, 1, .slice ay ly cy), (w.heap.size + 1, 2, .slice au lu cu)] [(.slice ax lx cx, a), (.slice ay ly cy, b), (.slice az lz cz, d), (.slice au lu cu, e)] w' → Calls Tryz.prog 80 #[.slice az lz cz, .slice au lu cu] w' fun ev w2 => (∃ r, ev = .returned r ∧ RN w2 r (d * e)) ∧ Gr w' w2) := Lib.hid (fun w' h => r_mul (h.rn (.slice az lz cz, d) (by simp)) (h.rn (.slice au lu cu, e) (by simp)) hd he (by omega))
  generalize ((sx != sy) && decide (0 < a * b)) = sz at *
  clear hx hy hz hu h1 h2 h3 g1 g2 g3 hsz hS ha hb hd he
  go_enter Tryz.func25, Tryz.ntmps25
  go_wp2_with fail
  generalize ((w.alloc (.cells #[.bool sx, .slice ax lx cx, .slice az lz cz] 29)).alloc (.cells #[.bool sy, .slice ay ly cy, .slice au lu cu] 29)).alloc (.cells #[.bool false, .slice none 0 0, .slice none 0 0] 29) = wz at *
  go_region_held3 (fun w' => KeepS w (w.heap.size + 2) 3 [(w.heap.size, 0, .bool sx), (w.heap.size, 1, .slice ax lx cx), (w.heap.size, 2, .slice az lz cz), (w.heap.size + 1, 0, .bool sy), (w.heap.size + 1, 1, .slice ay ly cy), (w.heap.size + 1, 2, .slice au lu cu)] [(.slice ax lx cx, a), (.slice ay ly cy, b), (.slice az lz cz, d), (.slice au lu cu, e)] w' ∧ w'.cell? ⟨w.heap.size, 0, none⟩ = some (.bool sx) ∧ w'.cell? ⟨w.heap.size, 1, none⟩ = some (.slice ax lx cx) ∧ w'.cell? ⟨w.heap.size, 2, none⟩ = some (.slice az lz cz) ∧ w'.cell? ⟨w.heap.size + 1, 0, none⟩ = some (.bool sy) ∧ w'.cell? ⟨w.heap.size + 1, 1, none⟩ = some (.slice ay ly cy) ∧ w'.cell? ⟨w.heap.size + 1, 2, none⟩ = some (.slice au lu cu))
    (first | exact HAL.out _ HSD.out | exact HAL.out _ hs3 | exact HAL.out _ hs4 | exact HAL.out _ (KeepS.set (KeepS.set (KeepS.set hs4 0 (by decide) _ (fun n h => by cases h)) 1 (by decide) _ (fun n h => by cases h)) 2 (by decide) _ (fun n h => by cases h)) | exact HAL.out _ (KeepS.set (KeepS.set (KeepS.set hs3 0 (by decide) _ (fun n h => by cases h)) 1 (by decide) _ (fun n h => by cases h)) 2 (by decide) _ (fun n h => by cases h)) | fail)
    (first | (go_at_call 80; go_split_ands; refine (HMU.out _ (by assumption)).mono ?_; rintro ev w3 ⟨⟨r3, rfl, hr3⟩, hg3'⟩; have hs3 := KeepS.gr (by assumption) hg3'; obtain ⟨a3, l3, c3, hr3e⟩ := rn_sl hr3; subst hr3e; obtain ⟨f0, u0, c0, k0⟩ := hs3.2.2.2.2 0 (by decide); obtain ⟨f1, u1, c1, k1⟩ := hs3.2.2.2.2 1 (by decide); obtain ⟨f2, u2, c2, k2⟩ := hs3.2.2.2.2 2 (by decide)) | (go_at_call 86; go_split_ands; refine (HTI.out _ (by assumption)).mono ?_; rintro ev w4 ⟨⟨r4, rfl, hr4⟩, hg4'⟩; have hs4 := KeepS.gr (by assumption) hg4'; obtain ⟨a4, l4, c4, hr4e⟩ := rn_sl hr4; subst hr4e; obtain ⟨f0, u0, c0, k0⟩ := hs4.2.2.2.2 0 (by decide); obtain ⟨f1, u1, c1, k1⟩ := hs4.2.2.2.2 1 (by decide); obtain ⟨f2, u2, c2, k2⟩ := hs4.2.2.2.2 2 (by decide)))
  all_goals
    go_wp2
    (try simp only [Exit.inBlock, Exit.then])
    first
    | (have HE := Lib.hid (three_set w3 (w.heap.size + 2) (.bool sz) (.slice a4 l4 c4) (.slice a3 l3 c3) _ _ _ c0 c1 c2 k0 k1 k2); refine bodyPost_ret (ret_prod _ _ _ HE.out.1 _ rfl) rfl ?_; exact ⟨⟨_, _, rfl, show RN _ _ _ from HE.out.2.1 _ _ (hr4.gr hg3'), show RN _ _ _ from HE.out.2.1 _ _ hr3⟩, HE.out.2.2 w hs3.1 (by omega)⟩)
    | (have HE := Lib.hid (three_set w4 (w.heap.size + 2) (.bool sz) (.slice a4 l4 c4) (.slice a3 l3 c3) _ _ _ c0 c1 c2 k0 k1 k2); refine bodyPost_ret (ret_prod _ _ _ HE.out.1 _ rfl) rfl ?_; exact ⟨⟨_, _, rfl, show RN _ _ _ from HE.out.2.1 _ _ hr4, show RN _ _ _ from HE.out.2.1 _ _ (hr3.gr hg4')⟩, HE.out.2.2 w hs4.1 (by omega)⟩)
end Go.Proofs.YtcjjgdoafkdeaaaGreatDoor
