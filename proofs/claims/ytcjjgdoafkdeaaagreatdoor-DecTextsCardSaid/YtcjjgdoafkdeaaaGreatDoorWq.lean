/- Layer 5's reference: GetDec of a text. -/
import Derived.Test.YtcjjgdoafkdeaaaGreatDoorWn
import Derived.Test.YtcjjgdoafkdeaaaGreatDoorWk
namespace Go.Proofs.YtcjjgdoafkdeaaaGreatDoor
open Go.RowKit Go.Extern.Stop Go.Stop Go.Extern Go.Sort
set_option linter.unusedVariables false
set_option linter.unusedSimpArgs false

/-- Where the first point lies, or the end. -/
theorem cutP_at {t a r : ByteArray} {pt : Bool} (h : CutP t a r pt) : ∃ I : Nat, I ≤ t.size ∧ t.extract 0 I = a ∧ (∀ j (hj : j < t.size), j < I → (t[j]'hj).toNat ≠ 46) ∧ ((pt = true ∧ (∃ hI : I < t.size, (t[I]'hI).toNat = 46) ∧ t.data.toList.drop (I + 1) = r.data.toList ∧ I + 1 + r.size = t.size) ∨ (pt = false ∧ I = t.size ∧ r.size = 0)) := by
  have key : ∀ (j : Nat) (hj : j < t.size), t.data.toList[j]? = some (t[j]'hj) := fun j hj => by
    have hl : j < t.data.toList.length := by rw [← Lib.size_eq]; exact hj
    rw [List.getElem?_eq_getElem hl, at_list t j hj hl]
  rcases h with ⟨rfl, i, hi, hlt, rfl, rfl⟩ | ⟨rfl, hi, rfl, rfl⟩
  · obtain ⟨h1, h2⟩ := Lib.indexByte_some hi
    refine ⟨i, by omega, rfl, fun j hj hji e => ?_, .inl ⟨rfl, ⟨hlt, ?_⟩, (piece t (i + 1) (by omega)).2.1.symm, by rw [(piece t (i + 1) (by omega)).2.2]; omega⟩⟩
    · exact h2 j hji (by rw [key j hj]; congr 1; exact UInt8.toNat_inj.1 e)
    · rw [key i hlt] at h1
      injection h1 with h1
      rw [h1]; rfl
  · refine ⟨a.size, Nat.le_refl _, extract_all a, fun j hj _ e => ?_, .inr ⟨rfl, rfl, rfl⟩⟩
    exact Lib.indexByte_none hi j (by rw [key j hj]; congr 1; exact UInt8.toNat_inj.1 e)
theorem ret_getdec {W : World} {bb : Nat} (x y z o o2 : Value) (hW : W.rangeAt bb 0 [x, y, z]) (tmps : Array Value) (h2 : tmps.getD 2 undef = .pointer (some ⟨bb, 0, none⟩)) (h3 : tmps.getD 3 undef = o) (h4 : tmps.getD 4 undef = o2) :
    (results Tryz.f17 tmps).run Tryz.prog W = .ok (.tuple #[.agg #[x, y, z], o, o2]) W := by
  have hl := run_loadVar_mid (P := Tryz.prog) W bb 0 29 [x, y, z] _ hW Tryz.underlying29 rfl (by kernel_rfl)
  unfold results
  rw [show Tryz.f17.results = #[.cell 2 29, .tmp 3, .tmp 4] from rfl]
  have k2 : tmps[2]?.getD undef = .pointer (some ⟨bb, 0, none⟩) := by simpa using h2
  have k3 : tmps[3]?.getD undef = o := by simpa using h3
  have k4 : tmps[4]?.getD undef = o2 := by simpa using h4
  simp [k2, k3, k4, asAddr, hl, Sem.run_bind, Sem.run_pure]
theorem dig_take_next {l : List UInt8} {m : Nat} (h : Dig (l.take m)) (hm : m < l.length) (h0 : 48 ≤ (l[m]'hm).toNat) (h9 : (l[m]'hm).toNat ≤ 57) : Dig (l.take (m + 1)) := by
  rw [List.take_succ_eq_append_getElem hm]
  intro c hc
  rcases List.mem_append.1 hc with hc | hc
  · exact h c hc
  · rw [List.mem_singleton.1 hc]; exact ⟨h0, h9⟩
theorem dv_take_next (a l : List UInt8) (m : Nat) (hm : m < l.length) : dv (a ++ l.take (m + 1)) = dv (a ++ l.take m) * 10 + ((l[m]'hm).toNat - 48) := by
  rw [List.take_succ_eq_append_getElem hm, ← List.append_assoc, dv_append (a ++ l.take m) [l[m]'hm]]
  have : dv [l[m]'hm] = (l[m]'hm).toNat - 48 := by show 0 * 10 + _ = _; omega
  rw [this]; rfl
theorem ten_D (p k : Nat) (h : p ≤ 9 * k) : 10 ^ p ≤ Dg.D ^ k := Nat.le_trans (Nat.pow_le_pow_right (by decide) h) (Nat.le_of_eq (D_pow k).symm)
theorem dv_D (l : List UInt8) (h : Dig l) (k : Nat) (hl : l.length ≤ 9 * k) : dv l < Dg.D ^ k := Nat.lt_of_lt_of_le (dv_lt l h) (ten_D _ _ hl)
set_option maxRecDepth 100000 in
set_option maxHeartbeats 8000000 in
theorem rdget_long_nt (s t a r : ByteArray) (hs : s.size ≤ 240) (hp : Parts s t true) (I : Nat) (hI : I ≤ t.size) (hex : t.extract 0 I = a) (hno : ∀ j (hj : j < t.size), j < I → (t[j]'hj).toNat ≠ 46) (HPT : Hid (∃ hI : I < t.size, (t[I]'hI).toNat = 46 ∧ t.data.toList.drop (I + 1) = r.data.toList ∧ I + 1 + r.size = t.size)) (HL : Hid (60 < s.size)) (w : World) :
    Calls Tryz.prog 17 #[.string s] w fun e w' => e = .returned (.tuple #[.agg #[.bool false, .slice none 0 0, .slice none 0 0], .int .i64 0, .bool false]) ∧ Gr w w' := by
  have z1 := size_parts hp
  have hts240 : t.size ≤ 240 := by omega
  obtain ⟨hpos, h45, e3⟩ : ∃ hpos : 0 < s.size, (s[0]'hpos).toNat = 45 ∧ s.extract 1 s.size = t := by
    rcases hp with ⟨_, h1, h2, h3⟩ | ⟨h1, _⟩
    · exact ⟨h1, h2, h3.symm⟩
    · cases h1
  have e2 : (((s[0]'hpos).toNat : Int) == 45) = true := beq_iff_eq.2 (by omega)
  have hp1 : (1 : Int) ≤ (s.size : Int) := by omega
  have e1 : s.toList.isEmpty = false := by rw [empty_iff]; exact decide_eq_false (fun e => by have := Lib.size_eq s; rw [e] at this; simp only [List.length_nil] at this; omega)
  have HNO := Lib.hid hno
  have HEX := Lib.hid hex
  have HZ := Lib.hid (And.intro hs z1)
  clear hp z1 hno hex h45
  have hbk := heap_alloc_new w (.cells #[.bool false, .slice none 0 0, .slice none 0 0] 29)
  have HBK := Lib.hid hbk
  have HG0 : Hid (Gr w (w.alloc (.cells #[.bool false, .slice none 0 0, .slice none 0 0] 29))) := Lib.hid ((Gr.rf w).alloc (Nat.le_refl _) _)
  clear hbk
  go_enter Tryz.func17, Tryz.ntmps17
  go_wp2_with fail
  go_quiet (fail)
  go_wp2_with fail
  have HG0 := Lib.hid (Gr.drew HG0.out nq)
  have HBK := Lib.hid ((Gr.drew (Gr.rf (w.alloc (.cells #[.bool false, .slice none 0 0, .slice none 0 0] 29))) nq).heap HBK.out)
  generalize (w.alloc (.cells #[.bool false, .slice none 0 0, .slice none 0 0] 29)).drewN nq = w0 at *
  go_loopg [7] (I + 1) (fun g k wr => ∃ j : Nat, g = I + 1 - j ∧ j ≤ I ∧ k = .int .i64 (j : Int) ∧ w0 = wr)
  case atStart => exact ⟨0, rfl, Nat.zero_le _, rfl, rfl⟩
  case round =>
    obtain ⟨j, hg, hji, rfl, rfl⟩ := hrel
    have HGG := Lib.hid hg
    clear hg
    by_cases hlt : j < I
    · have hjs : j < t.size := by omega
      have b1 : decide ((j : Int) < (t.size : Int)) = true := decide_eq_true (by omega)
      have b1n : decide (j < t.size) = true := decide_eq_true hjs
      have hx := HNO.out j hjs hlt
      have b2 : (((t[j]'hjs).toNat : Int) == 46) = false := beq_eq_false_iff_ne.2 (by omega)
      have b2n : ((t[j]'hjs).toNat == 46) = false := beq_eq_false_iff_ne.2 hx
      clear hx
      go_wp2
      go_roundg (I + 1 - (j + 1))
      case measure => have := HGG.out; omega
      case rel => exact ⟨j + 1, rfl, by omega, by first | rfl | go_num, rfl⟩
    · have hjI : j = I := by omega
      subst hjI
      clear hlt hji
      obtain ⟨hjs, h46, hrl, hsz⟩ := HPT.out
      have b1 : decide ((j : Int) < (t.size : Int)) = true := decide_eq_true (by omega)
      have b1n : decide (j < t.size) = true := decide_eq_true hjs
      have b2 : (((t[j]'hjs).toNat : Int) == 46) = true := beq_iff_eq.2 (by omega)
      have b2n : ((t[j]'hjs).toNat == 46) = true := beq_iff_eq.2 h46
      have hpl : (t.size : Int) - (j : Int) - 1 = (r.size : Int) := by omega
      have hmx : max (0 : Int) (r.size : Int) = (r.size : Int) := by omega
      clear h46 hrl hsz
      have b3 : decide (60 < (s.size : Int)) = true := decide_eq_true (by have := HL.out; omega)
      have b3n : decide (60 < s.size) = true := decide_eq_true (by have := HL.out; omega)
      have y0 := heap_cell HBK.out 0
      have y1 := heap_cell HBK.out 1
      have y2 := heap_cell HBK.out 2
      have g0 := heap_frz HBK.out 0
      have g1 := heap_frz HBK.out 1
      have g2 := heap_frz HBK.out 2
      have HE := Lib.hid (three_set w0 w.heap.size (.bool false) (.slice none 0 0) (.slice none 0 0) _ _ _ y0 y1 y2 (fun n h => by cases h) (fun n h => by cases h) (fun n h => by cases h))
      go_wp2
      (try simp only [Exit.inBlock, Exit.then])
      refine bodyPost_ret (ret_getdec _ _ _ _ _ HE.out.1 _ rfl rfl rfl) rfl ?_
      exact ⟨rfl, HE.out.2.2 w HG0.out (Nat.le_refl _)⟩
set_option maxRecDepth 100000 in
set_option maxHeartbeats 8000000 in
theorem rdget_long_nf (s t a r : ByteArray) (hs : s.size ≤ 240) (hp : Parts s t true) (I : Nat) (hI : I ≤ t.size) (hex : t.extract 0 I = a) (hno : ∀ j (hj : j < t.size), j < I → (t[j]'hj).toNat ≠ 46) (HPT : Hid (I = t.size)) (HL : Hid (60 < s.size)) (w : World) :
    Calls Tryz.prog 17 #[.string s] w fun e w' => e = .returned (.tuple #[.agg #[.bool false, .slice none 0 0, .slice none 0 0], .int .i64 0, .bool false]) ∧ Gr w w' := by
  have z1 := size_parts hp
  have hts240 : t.size ≤ 240 := by omega
  obtain ⟨hpos, h45, e3⟩ : ∃ hpos : 0 < s.size, (s[0]'hpos).toNat = 45 ∧ s.extract 1 s.size = t := by
    rcases hp with ⟨_, h1, h2, h3⟩ | ⟨h1, _⟩
    · exact ⟨h1, h2, h3.symm⟩
    · cases h1
  have e2 : (((s[0]'hpos).toNat : Int) == 45) = true := beq_iff_eq.2 (by omega)
  have hp1 : (1 : Int) ≤ (s.size : Int) := by omega
  have e1 : s.toList.isEmpty = false := by rw [empty_iff]; exact decide_eq_false (fun e => by have := Lib.size_eq s; rw [e] at this; simp only [List.length_nil] at this; omega)
  have HNO := Lib.hid hno
  have HEX := Lib.hid hex
  have HZ := Lib.hid (And.intro hs z1)
  clear hp z1 hno hex h45
  have hbk := heap_alloc_new w (.cells #[.bool false, .slice none 0 0, .slice none 0 0] 29)
  have HBK := Lib.hid hbk
  have HG0 : Hid (Gr w (w.alloc (.cells #[.bool false, .slice none 0 0, .slice none 0 0] 29))) := Lib.hid ((Gr.rf w).alloc (Nat.le_refl _) _)
  clear hbk
  go_enter Tryz.func17, Tryz.ntmps17
  go_wp2_with fail
  go_quiet (fail)
  go_wp2_with fail
  have HG0 := Lib.hid (Gr.drew HG0.out nq)
  have HBK := Lib.hid ((Gr.drew (Gr.rf (w.alloc (.cells #[.bool false, .slice none 0 0, .slice none 0 0] 29))) nq).heap HBK.out)
  generalize (w.alloc (.cells #[.bool false, .slice none 0 0, .slice none 0 0] 29)).drewN nq = w0 at *
  go_loopg [7] (I + 1) (fun g k wr => ∃ j : Nat, g = I + 1 - j ∧ j ≤ I ∧ k = .int .i64 (j : Int) ∧ w0 = wr)
  case atStart => exact ⟨0, rfl, Nat.zero_le _, rfl, rfl⟩
  case round =>
    obtain ⟨j, hg, hji, rfl, rfl⟩ := hrel
    have HGG := Lib.hid hg
    clear hg
    by_cases hlt : j < I
    · have hjs : j < t.size := by omega
      have b1 : decide ((j : Int) < (t.size : Int)) = true := decide_eq_true (by omega)
      have b1n : decide (j < t.size) = true := decide_eq_true hjs
      have hx := HNO.out j hjs hlt
      have b2 : (((t[j]'hjs).toNat : Int) == 46) = false := beq_eq_false_iff_ne.2 (by omega)
      have b2n : ((t[j]'hjs).toNat == 46) = false := beq_eq_false_iff_ne.2 hx
      clear hx
      go_wp2
      go_roundg (I + 1 - (j + 1))
      case measure => have := HGG.out; omega
      case rel => exact ⟨j + 1, rfl, by omega, by first | rfl | go_num, rfl⟩
    · have hjI : j = I := by omega
      subst hjI
      clear hlt hji
      have hje := HPT.out
      have b1 : decide ((j : Int) < (t.size : Int)) = false := decide_eq_false (by omega)
      have b1n : decide (j < t.size) = false := decide_eq_false (by omega)
      have hpl : (t.size : Int) - (j : Int) - 1 = -1 := by omega
      have hmx : max (0 : Int) (-1) = 0 := by decide
      clear hje
      have b3 : decide (60 < (s.size : Int)) = true := decide_eq_true (by have := HL.out; omega)
      have b3n : decide (60 < s.size) = true := decide_eq_true (by have := HL.out; omega)
      have y0 := heap_cell HBK.out 0
      have y1 := heap_cell HBK.out 1
      have y2 := heap_cell HBK.out 2
      have g0 := heap_frz HBK.out 0
      have g1 := heap_frz HBK.out 1
      have g2 := heap_frz HBK.out 2
      have HE := Lib.hid (three_set w0 w.heap.size (.bool false) (.slice none 0 0) (.slice none 0 0) _ _ _ y0 y1 y2 (fun n h => by cases h) (fun n h => by cases h) (fun n h => by cases h))
      go_wp2
      (try simp only [Exit.inBlock, Exit.then])
      refine bodyPost_ret (ret_getdec _ _ _ _ _ HE.out.1 _ rfl rfl rfl) rfl ?_
      exact ⟨rfl, HE.out.2.2 w HG0.out (Nat.le_refl _)⟩
set_option maxRecDepth 100000 in
set_option maxHeartbeats 8000000 in
theorem rdget_few_n (s t a r : ByteArray) (hs : s.size ≤ 240) (hp : Parts s t true) (I : Nat) (hI : I ≤ t.size) (hex : t.extract 0 I = a) (hno : ∀ j (hj : j < t.size), j < I → (t[j]'hj).toNat ≠ 46) (HPT : Hid (∃ hI : I < t.size, (t[I]'hI).toNat = 46 ∧ t.data.toList.drop (I + 1) = r.data.toList ∧ I + 1 + r.size = t.size)) (HL : Hid (s.size ≤ 60)) (HR : Hid (r.size = 0)) (w : World) :
    Calls Tryz.prog 17 #[.string s] w fun e w' => e = .returned (.tuple #[.agg #[.bool false, .slice none 0 0, .slice none 0 0], .int .i64 0, .bool false]) ∧ Gr w w' := by
  have z1 := size_parts hp
  have hts240 : t.size ≤ 240 := by omega
  obtain ⟨hpos, h45, e3⟩ : ∃ hpos : 0 < s.size, (s[0]'hpos).toNat = 45 ∧ s.extract 1 s.size = t := by
    rcases hp with ⟨_, h1, h2, h3⟩ | ⟨h1, _⟩
    · exact ⟨h1, h2, h3.symm⟩
    · cases h1
  have e2 : (((s[0]'hpos).toNat : Int) == 45) = true := beq_iff_eq.2 (by omega)
  have hp1 : (1 : Int) ≤ (s.size : Int) := by omega
  have e1 : s.toList.isEmpty = false := by rw [empty_iff]; exact decide_eq_false (fun e => by have := Lib.size_eq s; rw [e] at this; simp only [List.length_nil] at this; omega)
  have HNO := Lib.hid hno
  have HEX := Lib.hid hex
  have HZ := Lib.hid (And.intro hs z1)
  clear hp z1 hno hex h45
  have hbk := heap_alloc_new w (.cells #[.bool false, .slice none 0 0, .slice none 0 0] 29)
  have HBK := Lib.hid hbk
  have HG0 : Hid (Gr w (w.alloc (.cells #[.bool false, .slice none 0 0, .slice none 0 0] 29))) := Lib.hid ((Gr.rf w).alloc (Nat.le_refl _) _)
  clear hbk
  go_enter Tryz.func17, Tryz.ntmps17
  go_wp2_with fail
  go_quiet (fail)
  go_wp2_with fail
  have HG0 := Lib.hid (Gr.drew HG0.out nq)
  have HBK := Lib.hid ((Gr.drew (Gr.rf (w.alloc (.cells #[.bool false, .slice none 0 0, .slice none 0 0] 29))) nq).heap HBK.out)
  generalize (w.alloc (.cells #[.bool false, .slice none 0 0, .slice none 0 0] 29)).drewN nq = w0 at *
  go_loopg [7] (I + 1) (fun g k wr => ∃ j : Nat, g = I + 1 - j ∧ j ≤ I ∧ k = .int .i64 (j : Int) ∧ w0 = wr)
  case atStart => exact ⟨0, rfl, Nat.zero_le _, rfl, rfl⟩
  case round =>
    obtain ⟨j, hg, hji, rfl, rfl⟩ := hrel
    have HGG := Lib.hid hg
    clear hg
    by_cases hlt : j < I
    · have hjs : j < t.size := by omega
      have b1 : decide ((j : Int) < (t.size : Int)) = true := decide_eq_true (by omega)
      have b1n : decide (j < t.size) = true := decide_eq_true hjs
      have hx := HNO.out j hjs hlt
      have b2 : (((t[j]'hjs).toNat : Int) == 46) = false := beq_eq_false_iff_ne.2 (by omega)
      have b2n : ((t[j]'hjs).toNat == 46) = false := beq_eq_false_iff_ne.2 hx
      clear hx
      go_wp2
      go_roundg (I + 1 - (j + 1))
      case measure => have := HGG.out; omega
      case rel => exact ⟨j + 1, rfl, by omega, by first | rfl | go_num, rfl⟩
    · have hjI : j = I := by omega
      subst hjI
      clear hlt hji
      obtain ⟨hjs, h46, hrl, hsz⟩ := HPT.out
      have b1 : decide ((j : Int) < (t.size : Int)) = true := decide_eq_true (by omega)
      have b1n : decide (j < t.size) = true := decide_eq_true hjs
      have b2 : (((t[j]'hjs).toNat : Int) == 46) = true := beq_iff_eq.2 (by omega)
      have b2n : ((t[j]'hjs).toNat == 46) = true := beq_iff_eq.2 h46
      have hpl : (t.size : Int) - (j : Int) - 1 = (r.size : Int) := by omega
      have hmx : max (0 : Int) (r.size : Int) = (r.size : Int) := by omega
      clear h46 hrl hsz
      have b3 : decide (60 < (s.size : Int)) = false := decide_eq_false (by have := HL.out; omega)
      have b3n : decide (60 < s.size) = false := decide_eq_false (by have := HL.out; omega)
      have b4 : decide ((r.size : Int) < 1) = true := decide_eq_true (by have := HR.out; omega)
      have b4n : decide (r.size < 1) = true := decide_eq_true (by have := HR.out; omega)
      have y0 := heap_cell HBK.out 0
      have y1 := heap_cell HBK.out 1
      have y2 := heap_cell HBK.out 2
      have g0 := heap_frz HBK.out 0
      have g1 := heap_frz HBK.out 1
      have g2 := heap_frz HBK.out 2
      have HE := Lib.hid (three_set w0 w.heap.size (.bool false) (.slice none 0 0) (.slice none 0 0) _ _ _ y0 y1 y2 (fun n h => by cases h) (fun n h => by cases h) (fun n h => by cases h))
      go_wp2
      (try simp only [Exit.inBlock, Exit.then])
      refine bodyPost_ret (ret_getdec _ _ _ _ _ HE.out.1 _ rfl rfl rfl) rfl ?_
      exact ⟨rfl, HE.out.2.2 w HG0.out (Nat.le_refl _)⟩
set_option maxRecDepth 100000 in
set_option maxHeartbeats 8000000 in
theorem rdget_many_n (s t a r : ByteArray) (hs : s.size ≤ 240) (hp : Parts s t true) (I : Nat) (hI : I ≤ t.size) (hex : t.extract 0 I = a) (hno : ∀ j (hj : j < t.size), j < I → (t[j]'hj).toNat ≠ 46) (HPT : Hid (∃ hI : I < t.size, (t[I]'hI).toNat = 46 ∧ t.data.toList.drop (I + 1) = r.data.toList ∧ I + 1 + r.size = t.size)) (HL : Hid (s.size ≤ 60)) (HR : Hid (20 < r.size)) (w : World) :
    Calls Tryz.prog 17 #[.string s] w fun e w' => e = .returned (.tuple #[.agg #[.bool false, .slice none 0 0, .slice none 0 0], .int .i64 0, .bool false]) ∧ Gr w w' := by
  have z1 := size_parts hp
  have hts240 : t.size ≤ 240 := by omega
  obtain ⟨hpos, h45, e3⟩ : ∃ hpos : 0 < s.size, (s[0]'hpos).toNat = 45 ∧ s.extract 1 s.size = t := by
    rcases hp with ⟨_, h1, h2, h3⟩ | ⟨h1, _⟩
    · exact ⟨h1, h2, h3.symm⟩
    · cases h1
  have e2 : (((s[0]'hpos).toNat : Int) == 45) = true := beq_iff_eq.2 (by omega)
  have hp1 : (1 : Int) ≤ (s.size : Int) := by omega
  have e1 : s.toList.isEmpty = false := by rw [empty_iff]; exact decide_eq_false (fun e => by have := Lib.size_eq s; rw [e] at this; simp only [List.length_nil] at this; omega)
  have HNO := Lib.hid hno
  have HEX := Lib.hid hex
  have HZ := Lib.hid (And.intro hs z1)
  clear hp z1 hno hex h45
  have hbk := heap_alloc_new w (.cells #[.bool false, .slice none 0 0, .slice none 0 0] 29)
  have HBK := Lib.hid hbk
  have HG0 : Hid (Gr w (w.alloc (.cells #[.bool false, .slice none 0 0, .slice none 0 0] 29))) := Lib.hid ((Gr.rf w).alloc (Nat.le_refl _) _)
  clear hbk
  go_enter Tryz.func17, Tryz.ntmps17
  go_wp2_with fail
  go_quiet (fail)
  go_wp2_with fail
  have HG0 := Lib.hid (Gr.drew HG0.out nq)
  have HBK := Lib.hid ((Gr.drew (Gr.rf (w.alloc (.cells #[.bool false, .slice none 0 0, .slice none 0 0] 29))) nq).heap HBK.out)
  generalize (w.alloc (.cells #[.bool false, .slice none 0 0, .slice none 0 0] 29)).drewN nq = w0 at *
  go_loopg [7] (I + 1) (fun g k wr => ∃ j : Nat, g = I + 1 - j ∧ j ≤ I ∧ k = .int .i64 (j : Int) ∧ w0 = wr)
  case atStart => exact ⟨0, rfl, Nat.zero_le _, rfl, rfl⟩
  case round =>
    obtain ⟨j, hg, hji, rfl, rfl⟩ := hrel
    have HGG := Lib.hid hg
    clear hg
    by_cases hlt : j < I
    · have hjs : j < t.size := by omega
      have b1 : decide ((j : Int) < (t.size : Int)) = true := decide_eq_true (by omega)
      have b1n : decide (j < t.size) = true := decide_eq_true hjs
      have hx := HNO.out j hjs hlt
      have b2 : (((t[j]'hjs).toNat : Int) == 46) = false := beq_eq_false_iff_ne.2 (by omega)
      have b2n : ((t[j]'hjs).toNat == 46) = false := beq_eq_false_iff_ne.2 hx
      clear hx
      go_wp2
      go_roundg (I + 1 - (j + 1))
      case measure => have := HGG.out; omega
      case rel => exact ⟨j + 1, rfl, by omega, by first | rfl | go_num, rfl⟩
    · have hjI : j = I := by omega
      subst hjI
      clear hlt hji
      obtain ⟨hjs, h46, hrl, hsz⟩ := HPT.out
      have b1 : decide ((j : Int) < (t.size : Int)) = true := decide_eq_true (by omega)
      have b1n : decide (j < t.size) = true := decide_eq_true hjs
      have b2 : (((t[j]'hjs).toNat : Int) == 46) = true := beq_iff_eq.2 (by omega)
      have b2n : ((t[j]'hjs).toNat == 46) = true := beq_iff_eq.2 h46
      have hpl : (t.size : Int) - (j : Int) - 1 = (r.size : Int) := by omega
      have hmx : max (0 : Int) (r.size : Int) = (r.size : Int) := by omega
      clear h46 hrl hsz
      have b3 : decide (60 < (s.size : Int)) = false := decide_eq_false (by have := HL.out; omega)
      have b3n : decide (60 < s.size) = false := decide_eq_false (by have := HL.out; omega)
      have b4 : decide ((r.size : Int) < 1) = false := decide_eq_false (by have := HR.out; omega)
      have b4n : decide (r.size < 1) = false := decide_eq_false (by have := HR.out; omega)
      have b5 : decide (20 < (r.size : Int)) = true := decide_eq_true (by have := HR.out; omega)
      have b5n : decide (20 < r.size) = true := decide_eq_true (by have := HR.out; omega)
      have y0 := heap_cell HBK.out 0
      have y1 := heap_cell HBK.out 1
      have y2 := heap_cell HBK.out 2
      have g0 := heap_frz HBK.out 0
      have g1 := heap_frz HBK.out 1
      have g2 := heap_frz HBK.out 2
      have HE := Lib.hid (three_set w0 w.heap.size (.bool false) (.slice none 0 0) (.slice none 0 0) _ _ _ y0 y1 y2 (fun n h => by cases h) (fun n h => by cases h) (fun n h => by cases h))
      go_wp2
      (try simp only [Exit.inBlock, Exit.then])
      refine bodyPost_ret (ret_getdec _ _ _ _ _ HE.out.1 _ rfl rfl rfl) rfl ?_
      exact ⟨rfl, HE.out.2.2 w HG0.out (Nat.le_refl _)⟩
set_option maxRecDepth 100000 in
set_option maxHeartbeats 8000000 in
theorem rdget_long_pt (s t a r : ByteArray) (hs : s.size ≤ 240) (hp : Parts s t false) (hne : 0 < s.size) (I : Nat) (hI : I ≤ t.size) (hex : t.extract 0 I = a) (hno : ∀ j (hj : j < t.size), j < I → (t[j]'hj).toNat ≠ 46) (HPT : Hid (∃ hI : I < t.size, (t[I]'hI).toNat = 46 ∧ t.data.toList.drop (I + 1) = r.data.toList ∧ I + 1 + r.size = t.size)) (HL : Hid (60 < s.size)) (w : World) :
    Calls Tryz.prog 17 #[.string s] w fun e w' => e = .returned (.tuple #[.agg #[.bool false, .slice none 0 0, .slice none 0 0], .int .i64 0, .bool false]) ∧ Gr w w' := by
  have z1 := size_parts hp
  obtain ⟨hts, h45⟩ : t = s ∧ ∀ h : 0 < s.size, (s[0]'h).toNat ≠ 45 := by
    rcases hp with ⟨h1, _⟩ | ⟨_, h2, h3⟩
    · cases h1
    · exact ⟨h2, h3⟩
  subst hts
  have hpos : 0 < t.size := hne
  have e2 : (((t[0]'hpos).toNat : Int) == 45) = false := beq_eq_false_iff_ne.2 (by have := h45 hpos; omega)
  have e1 : t.toList.isEmpty = false := by rw [empty_iff]; exact decide_eq_false (fun e => by have := Lib.size_eq t; rw [e] at this; simp only [List.length_nil] at this; omega)
  have HNO := Lib.hid hno
  have HEX := Lib.hid hex
  have HZ := Lib.hid (And.intro hs z1)
  clear hp z1 hno hex h45
  have hbk := heap_alloc_new w (.cells #[.bool false, .slice none 0 0, .slice none 0 0] 29)
  have HBK := Lib.hid hbk
  have HG0 : Hid (Gr w (w.alloc (.cells #[.bool false, .slice none 0 0, .slice none 0 0] 29))) := Lib.hid ((Gr.rf w).alloc (Nat.le_refl _) _)
  clear hbk
  go_enter Tryz.func17, Tryz.ntmps17
  go_wp2_with fail
  go_quiet (fail)
  go_wp2_with fail
  have HG0 := Lib.hid (Gr.drew HG0.out nq)
  have HBK := Lib.hid ((Gr.drew (Gr.rf (w.alloc (.cells #[.bool false, .slice none 0 0, .slice none 0 0] 29))) nq).heap HBK.out)
  generalize (w.alloc (.cells #[.bool false, .slice none 0 0, .slice none 0 0] 29)).drewN nq = w0 at *
  go_loopg [7] (I + 1) (fun g k wr => ∃ j : Nat, g = I + 1 - j ∧ j ≤ I ∧ k = .int .i64 (j : Int) ∧ w0 = wr)
  case atStart => exact ⟨0, rfl, Nat.zero_le _, rfl, rfl⟩
  case round =>
    obtain ⟨j, hg, hji, rfl, rfl⟩ := hrel
    have HGG := Lib.hid hg
    clear hg
    by_cases hlt : j < I
    · have hjs : j < t.size := by omega
      have b1 : decide ((j : Int) < (t.size : Int)) = true := decide_eq_true (by omega)
      have b1n : decide (j < t.size) = true := decide_eq_true hjs
      have hx := HNO.out j hjs hlt
      have b2 : (((t[j]'hjs).toNat : Int) == 46) = false := beq_eq_false_iff_ne.2 (by omega)
      have b2n : ((t[j]'hjs).toNat == 46) = false := beq_eq_false_iff_ne.2 hx
      clear hx
      go_wp2
      go_roundg (I + 1 - (j + 1))
      case measure => have := HGG.out; omega
      case rel => exact ⟨j + 1, rfl, by omega, by first | rfl | go_num, rfl⟩
    · have hjI : j = I := by omega
      subst hjI
      clear hlt hji
      obtain ⟨hjs, h46, hrl, hsz⟩ := HPT.out
      have b1 : decide ((j : Int) < (t.size : Int)) = true := decide_eq_true (by omega)
      have b1n : decide (j < t.size) = true := decide_eq_true hjs
      have b2 : (((t[j]'hjs).toNat : Int) == 46) = true := beq_iff_eq.2 (by omega)
      have b2n : ((t[j]'hjs).toNat == 46) = true := beq_iff_eq.2 h46
      have hpl : (t.size : Int) - (j : Int) - 1 = (r.size : Int) := by omega
      have hmx : max (0 : Int) (r.size : Int) = (r.size : Int) := by omega
      clear h46 hrl hsz
      have b3 : decide (60 < (t.size : Int)) = true := decide_eq_true (by have := HL.out; omega)
      have b3n : decide (60 < t.size) = true := decide_eq_true (by have := HL.out; omega)
      have y0 := heap_cell HBK.out 0
      have y1 := heap_cell HBK.out 1
      have y2 := heap_cell HBK.out 2
      have g0 := heap_frz HBK.out 0
      have g1 := heap_frz HBK.out 1
      have g2 := heap_frz HBK.out 2
      have HE := Lib.hid (three_set w0 w.heap.size (.bool false) (.slice none 0 0) (.slice none 0 0) _ _ _ y0 y1 y2 (fun n h => by cases h) (fun n h => by cases h) (fun n h => by cases h))
      go_wp2
      (try simp only [Exit.inBlock, Exit.then])
      refine bodyPost_ret (ret_getdec _ _ _ _ _ HE.out.1 _ rfl rfl rfl) rfl ?_
      exact ⟨rfl, HE.out.2.2 w HG0.out (Nat.le_refl _)⟩
set_option maxRecDepth 100000 in
set_option maxHeartbeats 8000000 in
theorem rdget_long_pf (s t a r : ByteArray) (hs : s.size ≤ 240) (hp : Parts s t false) (hne : 0 < s.size) (I : Nat) (hI : I ≤ t.size) (hex : t.extract 0 I = a) (hno : ∀ j (hj : j < t.size), j < I → (t[j]'hj).toNat ≠ 46) (HPT : Hid (I = t.size)) (HL : Hid (60 < s.size)) (w : World) :
    Calls Tryz.prog 17 #[.string s] w fun e w' => e = .returned (.tuple #[.agg #[.bool false, .slice none 0 0, .slice none 0 0], .int .i64 0, .bool false]) ∧ Gr w w' := by
  have z1 := size_parts hp
  obtain ⟨hts, h45⟩ : t = s ∧ ∀ h : 0 < s.size, (s[0]'h).toNat ≠ 45 := by
    rcases hp with ⟨h1, _⟩ | ⟨_, h2, h3⟩
    · cases h1
    · exact ⟨h2, h3⟩
  subst hts
  have hpos : 0 < t.size := hne
  have e2 : (((t[0]'hpos).toNat : Int) == 45) = false := beq_eq_false_iff_ne.2 (by have := h45 hpos; omega)
  have e1 : t.toList.isEmpty = false := by rw [empty_iff]; exact decide_eq_false (fun e => by have := Lib.size_eq t; rw [e] at this; simp only [List.length_nil] at this; omega)
  have HNO := Lib.hid hno
  have HEX := Lib.hid hex
  have HZ := Lib.hid (And.intro hs z1)
  clear hp z1 hno hex h45
  have hbk := heap_alloc_new w (.cells #[.bool false, .slice none 0 0, .slice none 0 0] 29)
  have HBK := Lib.hid hbk
  have HG0 : Hid (Gr w (w.alloc (.cells #[.bool false, .slice none 0 0, .slice none 0 0] 29))) := Lib.hid ((Gr.rf w).alloc (Nat.le_refl _) _)
  clear hbk
  go_enter Tryz.func17, Tryz.ntmps17
  go_wp2_with fail
  go_quiet (fail)
  go_wp2_with fail
  have HG0 := Lib.hid (Gr.drew HG0.out nq)
  have HBK := Lib.hid ((Gr.drew (Gr.rf (w.alloc (.cells #[.bool false, .slice none 0 0, .slice none 0 0] 29))) nq).heap HBK.out)
  generalize (w.alloc (.cells #[.bool false, .slice none 0 0, .slice none 0 0] 29)).drewN nq = w0 at *
  go_loopg [7] (I + 1) (fun g k wr => ∃ j : Nat, g = I + 1 - j ∧ j ≤ I ∧ k = .int .i64 (j : Int) ∧ w0 = wr)
  case atStart => exact ⟨0, rfl, Nat.zero_le _, rfl, rfl⟩
  case round =>
    obtain ⟨j, hg, hji, rfl, rfl⟩ := hrel
    have HGG := Lib.hid hg
    clear hg
    by_cases hlt : j < I
    · have hjs : j < t.size := by omega
      have b1 : decide ((j : Int) < (t.size : Int)) = true := decide_eq_true (by omega)
      have b1n : decide (j < t.size) = true := decide_eq_true hjs
      have hx := HNO.out j hjs hlt
      have b2 : (((t[j]'hjs).toNat : Int) == 46) = false := beq_eq_false_iff_ne.2 (by omega)
      have b2n : ((t[j]'hjs).toNat == 46) = false := beq_eq_false_iff_ne.2 hx
      clear hx
      go_wp2
      go_roundg (I + 1 - (j + 1))
      case measure => have := HGG.out; omega
      case rel => exact ⟨j + 1, rfl, by omega, by first | rfl | go_num, rfl⟩
    · have hjI : j = I := by omega
      subst hjI
      clear hlt hji
      have hje := HPT.out
      have b1 : decide ((j : Int) < (t.size : Int)) = false := decide_eq_false (by omega)
      have b1n : decide (j < t.size) = false := decide_eq_false (by omega)
      have hpl : (t.size : Int) - (j : Int) - 1 = -1 := by omega
      have hmx : max (0 : Int) (-1) = 0 := by decide
      clear hje
      have b3 : decide (60 < (t.size : Int)) = true := decide_eq_true (by have := HL.out; omega)
      have b3n : decide (60 < t.size) = true := decide_eq_true (by have := HL.out; omega)
      have y0 := heap_cell HBK.out 0
      have y1 := heap_cell HBK.out 1
      have y2 := heap_cell HBK.out 2
      have g0 := heap_frz HBK.out 0
      have g1 := heap_frz HBK.out 1
      have g2 := heap_frz HBK.out 2
      have HE := Lib.hid (three_set w0 w.heap.size (.bool false) (.slice none 0 0) (.slice none 0 0) _ _ _ y0 y1 y2 (fun n h => by cases h) (fun n h => by cases h) (fun n h => by cases h))
      go_wp2
      (try simp only [Exit.inBlock, Exit.then])
      refine bodyPost_ret (ret_getdec _ _ _ _ _ HE.out.1 _ rfl rfl rfl) rfl ?_
      exact ⟨rfl, HE.out.2.2 w HG0.out (Nat.le_refl _)⟩
set_option maxRecDepth 100000 in
set_option maxHeartbeats 8000000 in
theorem rdget_few_p (s t a r : ByteArray) (hs : s.size ≤ 240) (hp : Parts s t false) (hne : 0 < s.size) (I : Nat) (hI : I ≤ t.size) (hex : t.extract 0 I = a) (hno : ∀ j (hj : j < t.size), j < I → (t[j]'hj).toNat ≠ 46) (HPT : Hid (∃ hI : I < t.size, (t[I]'hI).toNat = 46 ∧ t.data.toList.drop (I + 1) = r.data.toList ∧ I + 1 + r.size = t.size)) (HL : Hid (s.size ≤ 60)) (HR : Hid (r.size = 0)) (w : World) :
    Calls Tryz.prog 17 #[.string s] w fun e w' => e = .returned (.tuple #[.agg #[.bool false, .slice none 0 0, .slice none 0 0], .int .i64 0, .bool false]) ∧ Gr w w' := by
  have z1 := size_parts hp
  obtain ⟨hts, h45⟩ : t = s ∧ ∀ h : 0 < s.size, (s[0]'h).toNat ≠ 45 := by
    rcases hp with ⟨h1, _⟩ | ⟨_, h2, h3⟩
    · cases h1
    · exact ⟨h2, h3⟩
  subst hts
  have hpos : 0 < t.size := hne
  have e2 : (((t[0]'hpos).toNat : Int) == 45) = false := beq_eq_false_iff_ne.2 (by have := h45 hpos; omega)
  have e1 : t.toList.isEmpty = false := by rw [empty_iff]; exact decide_eq_false (fun e => by have := Lib.size_eq t; rw [e] at this; simp only [List.length_nil] at this; omega)
  have HNO := Lib.hid hno
  have HEX := Lib.hid hex
  have HZ := Lib.hid (And.intro hs z1)
  clear hp z1 hno hex h45
  have hbk := heap_alloc_new w (.cells #[.bool false, .slice none 0 0, .slice none 0 0] 29)
  have HBK := Lib.hid hbk
  have HG0 : Hid (Gr w (w.alloc (.cells #[.bool false, .slice none 0 0, .slice none 0 0] 29))) := Lib.hid ((Gr.rf w).alloc (Nat.le_refl _) _)
  clear hbk
  go_enter Tryz.func17, Tryz.ntmps17
  go_wp2_with fail
  go_quiet (fail)
  go_wp2_with fail
  have HG0 := Lib.hid (Gr.drew HG0.out nq)
  have HBK := Lib.hid ((Gr.drew (Gr.rf (w.alloc (.cells #[.bool false, .slice none 0 0, .slice none 0 0] 29))) nq).heap HBK.out)
  generalize (w.alloc (.cells #[.bool false, .slice none 0 0, .slice none 0 0] 29)).drewN nq = w0 at *
  go_loopg [7] (I + 1) (fun g k wr => ∃ j : Nat, g = I + 1 - j ∧ j ≤ I ∧ k = .int .i64 (j : Int) ∧ w0 = wr)
  case atStart => exact ⟨0, rfl, Nat.zero_le _, rfl, rfl⟩
  case round =>
    obtain ⟨j, hg, hji, rfl, rfl⟩ := hrel
    have HGG := Lib.hid hg
    clear hg
    by_cases hlt : j < I
    · have hjs : j < t.size := by omega
      have b1 : decide ((j : Int) < (t.size : Int)) = true := decide_eq_true (by omega)
      have b1n : decide (j < t.size) = true := decide_eq_true hjs
      have hx := HNO.out j hjs hlt
      have b2 : (((t[j]'hjs).toNat : Int) == 46) = false := beq_eq_false_iff_ne.2 (by omega)
      have b2n : ((t[j]'hjs).toNat == 46) = false := beq_eq_false_iff_ne.2 hx
      clear hx
      go_wp2
      go_roundg (I + 1 - (j + 1))
      case measure => have := HGG.out; omega
      case rel => exact ⟨j + 1, rfl, by omega, by first | rfl | go_num, rfl⟩
    · have hjI : j = I := by omega
      subst hjI
      clear hlt hji
      obtain ⟨hjs, h46, hrl, hsz⟩ := HPT.out
      have b1 : decide ((j : Int) < (t.size : Int)) = true := decide_eq_true (by omega)
      have b1n : decide (j < t.size) = true := decide_eq_true hjs
      have b2 : (((t[j]'hjs).toNat : Int) == 46) = true := beq_iff_eq.2 (by omega)
      have b2n : ((t[j]'hjs).toNat == 46) = true := beq_iff_eq.2 h46
      have hpl : (t.size : Int) - (j : Int) - 1 = (r.size : Int) := by omega
      have hmx : max (0 : Int) (r.size : Int) = (r.size : Int) := by omega
      clear h46 hrl hsz
      have b3 : decide (60 < (t.size : Int)) = false := decide_eq_false (by have := HL.out; omega)
      have b3n : decide (60 < t.size) = false := decide_eq_false (by have := HL.out; omega)
      have b4 : decide ((r.size : Int) < 1) = true := decide_eq_true (by have := HR.out; omega)
      have b4n : decide (r.size < 1) = true := decide_eq_true (by have := HR.out; omega)
      have y0 := heap_cell HBK.out 0
      have y1 := heap_cell HBK.out 1
      have y2 := heap_cell HBK.out 2
      have g0 := heap_frz HBK.out 0
      have g1 := heap_frz HBK.out 1
      have g2 := heap_frz HBK.out 2
      have HE := Lib.hid (three_set w0 w.heap.size (.bool false) (.slice none 0 0) (.slice none 0 0) _ _ _ y0 y1 y2 (fun n h => by cases h) (fun n h => by cases h) (fun n h => by cases h))
      go_wp2
      (try simp only [Exit.inBlock, Exit.then])
      refine bodyPost_ret (ret_getdec _ _ _ _ _ HE.out.1 _ rfl rfl rfl) rfl ?_
      exact ⟨rfl, HE.out.2.2 w HG0.out (Nat.le_refl _)⟩
set_option maxRecDepth 100000 in
set_option maxHeartbeats 8000000 in
theorem rdget_many_p (s t a r : ByteArray) (hs : s.size ≤ 240) (hp : Parts s t false) (hne : 0 < s.size) (I : Nat) (hI : I ≤ t.size) (hex : t.extract 0 I = a) (hno : ∀ j (hj : j < t.size), j < I → (t[j]'hj).toNat ≠ 46) (HPT : Hid (∃ hI : I < t.size, (t[I]'hI).toNat = 46 ∧ t.data.toList.drop (I + 1) = r.data.toList ∧ I + 1 + r.size = t.size)) (HL : Hid (s.size ≤ 60)) (HR : Hid (20 < r.size)) (w : World) :
    Calls Tryz.prog 17 #[.string s] w fun e w' => e = .returned (.tuple #[.agg #[.bool false, .slice none 0 0, .slice none 0 0], .int .i64 0, .bool false]) ∧ Gr w w' := by
  have z1 := size_parts hp
  obtain ⟨hts, h45⟩ : t = s ∧ ∀ h : 0 < s.size, (s[0]'h).toNat ≠ 45 := by
    rcases hp with ⟨h1, _⟩ | ⟨_, h2, h3⟩
    · cases h1
    · exact ⟨h2, h3⟩
  subst hts
  have hpos : 0 < t.size := hne
  have e2 : (((t[0]'hpos).toNat : Int) == 45) = false := beq_eq_false_iff_ne.2 (by have := h45 hpos; omega)
  have e1 : t.toList.isEmpty = false := by rw [empty_iff]; exact decide_eq_false (fun e => by have := Lib.size_eq t; rw [e] at this; simp only [List.length_nil] at this; omega)
  have HNO := Lib.hid hno
  have HEX := Lib.hid hex
  have HZ := Lib.hid (And.intro hs z1)
  clear hp z1 hno hex h45
  have hbk := heap_alloc_new w (.cells #[.bool false, .slice none 0 0, .slice none 0 0] 29)
  have HBK := Lib.hid hbk
  have HG0 : Hid (Gr w (w.alloc (.cells #[.bool false, .slice none 0 0, .slice none 0 0] 29))) := Lib.hid ((Gr.rf w).alloc (Nat.le_refl _) _)
  clear hbk
  go_enter Tryz.func17, Tryz.ntmps17
  go_wp2_with fail
  go_quiet (fail)
  go_wp2_with fail
  have HG0 := Lib.hid (Gr.drew HG0.out nq)
  have HBK := Lib.hid ((Gr.drew (Gr.rf (w.alloc (.cells #[.bool false, .slice none 0 0, .slice none 0 0] 29))) nq).heap HBK.out)
  generalize (w.alloc (.cells #[.bool false, .slice none 0 0, .slice none 0 0] 29)).drewN nq = w0 at *
  go_loopg [7] (I + 1) (fun g k wr => ∃ j : Nat, g = I + 1 - j ∧ j ≤ I ∧ k = .int .i64 (j : Int) ∧ w0 = wr)
  case atStart => exact ⟨0, rfl, Nat.zero_le _, rfl, rfl⟩
  case round =>
    obtain ⟨j, hg, hji, rfl, rfl⟩ := hrel
    have HGG := Lib.hid hg
    clear hg
    by_cases hlt : j < I
    · have hjs : j < t.size := by omega
      have b1 : decide ((j : Int) < (t.size : Int)) = true := decide_eq_true (by omega)
      have b1n : decide (j < t.size) = true := decide_eq_true hjs
      have hx := HNO.out j hjs hlt
      have b2 : (((t[j]'hjs).toNat : Int) == 46) = false := beq_eq_false_iff_ne.2 (by omega)
      have b2n : ((t[j]'hjs).toNat == 46) = false := beq_eq_false_iff_ne.2 hx
      clear hx
      go_wp2
      go_roundg (I + 1 - (j + 1))
      case measure => have := HGG.out; omega
      case rel => exact ⟨j + 1, rfl, by omega, by first | rfl | go_num, rfl⟩
    · have hjI : j = I := by omega
      subst hjI
      clear hlt hji
      obtain ⟨hjs, h46, hrl, hsz⟩ := HPT.out
      have b1 : decide ((j : Int) < (t.size : Int)) = true := decide_eq_true (by omega)
      have b1n : decide (j < t.size) = true := decide_eq_true hjs
      have b2 : (((t[j]'hjs).toNat : Int) == 46) = true := beq_iff_eq.2 (by omega)
      have b2n : ((t[j]'hjs).toNat == 46) = true := beq_iff_eq.2 h46
      have hpl : (t.size : Int) - (j : Int) - 1 = (r.size : Int) := by omega
      have hmx : max (0 : Int) (r.size : Int) = (r.size : Int) := by omega
      clear h46 hrl hsz
      have b3 : decide (60 < (t.size : Int)) = false := decide_eq_false (by have := HL.out; omega)
      have b3n : decide (60 < t.size) = false := decide_eq_false (by have := HL.out; omega)
      have b4 : decide ((r.size : Int) < 1) = false := decide_eq_false (by have := HR.out; omega)
      have b4n : decide (r.size < 1) = false := decide_eq_false (by have := HR.out; omega)
      have b5 : decide (20 < (r.size : Int)) = true := decide_eq_true (by have := HR.out; omega)
      have b5n : decide (20 < r.size) = true := decide_eq_true (by have := HR.out; omega)
      have y0 := heap_cell HBK.out 0
      have y1 := heap_cell HBK.out 1
      have y2 := heap_cell HBK.out 2
      have g0 := heap_frz HBK.out 0
      have g1 := heap_frz HBK.out 1
      have g2 := heap_frz HBK.out 2
      have HE := Lib.hid (three_set w0 w.heap.size (.bool false) (.slice none 0 0) (.slice none 0 0) _ _ _ y0 y1 y2 (fun n h => by cases h) (fun n h => by cases h) (fun n h => by cases h))
      go_wp2
      (try simp only [Exit.inBlock, Exit.then])
      refine bodyPost_ret (ret_getdec _ _ _ _ _ HE.out.1 _ rfl rfl rfl) rfl ?_
      exact ⟨rfl, HE.out.2.2 w HG0.out (Nat.le_refl _)⟩
set_option maxRecDepth 100000 in
set_option maxHeartbeats 8000000 in
theorem rdget_nonum_nt (s t a r : ByteArray) (hs : s.size ≤ 240) (hp : Parts s t true) (I : Nat) (hI : I ≤ t.size) (hex : t.extract 0 I = a) (hno : ∀ j (hj : j < t.size), j < I → (t[j]'hj).toNat ≠ 46) (HPT : Hid (∃ hI : I < t.size, (t[I]'hI).toNat = 46 ∧ t.data.toList.drop (I + 1) = r.data.toList ∧ I + 1 + r.size = t.size)) (HL : Hid (s.size ≤ 60)) (HR : Hid (1 ≤ r.size ∧ r.size ≤ 20)) (HN : Hid (¬ NumT a)) (w : World) :
    Calls Tryz.prog 17 #[.string s] w fun e w' => e = .returned (.tuple #[.agg #[.bool false, .slice none 0 0, .slice none 0 0], .int .i64 0, .bool false]) ∧ Gr w w' := by
  have HGN := Lib.hid (fun w => rgetN_calls a w)
  have z1 := size_parts hp
  have hts240 : t.size ≤ 240 := by omega
  obtain ⟨hpos, h45, e3⟩ : ∃ hpos : 0 < s.size, (s[0]'hpos).toNat = 45 ∧ s.extract 1 s.size = t := by
    rcases hp with ⟨_, h1, h2, h3⟩ | ⟨h1, _⟩
    · exact ⟨h1, h2, h3.symm⟩
    · cases h1
  have e2 : (((s[0]'hpos).toNat : Int) == 45) = true := beq_iff_eq.2 (by omega)
  have hp1 : (1 : Int) ≤ (s.size : Int) := by omega
  have e1 : s.toList.isEmpty = false := by rw [empty_iff]; exact decide_eq_false (fun e => by have := Lib.size_eq s; rw [e] at this; simp only [List.length_nil] at this; omega)
  have HNO := Lib.hid hno
  have HEX := Lib.hid hex
  have HZ := Lib.hid (And.intro hs z1)
  clear hp z1 hno hex h45
  have hbk := heap_alloc_new w (.cells #[.bool false, .slice none 0 0, .slice none 0 0] 29)
  have HBK := Lib.hid hbk
  have HG0 : Hid (Gr w (w.alloc (.cells #[.bool false, .slice none 0 0, .slice none 0 0] 29))) := Lib.hid ((Gr.rf w).alloc (Nat.le_refl _) _)
  clear hbk
  go_enter Tryz.func17, Tryz.ntmps17
  go_wp2_with fail
  go_quiet (fail)
  go_wp2_with fail
  have HG0 := Lib.hid (Gr.drew HG0.out nq)
  have HBK := Lib.hid ((Gr.drew (Gr.rf (w.alloc (.cells #[.bool false, .slice none 0 0, .slice none 0 0] 29))) nq).heap HBK.out)
  generalize (w.alloc (.cells #[.bool false, .slice none 0 0, .slice none 0 0] 29)).drewN nq = w0 at *
  go_loopg [7] (I + 1) (fun g k wr => ∃ j : Nat, g = I + 1 - j ∧ j ≤ I ∧ k = .int .i64 (j : Int) ∧ w0 = wr)
  case atStart => exact ⟨0, rfl, Nat.zero_le _, rfl, rfl⟩
  case round =>
    obtain ⟨j, hg, hji, rfl, rfl⟩ := hrel
    have HGG := Lib.hid hg
    clear hg
    by_cases hlt : j < I
    · have hjs : j < t.size := by omega
      have b1 : decide ((j : Int) < (t.size : Int)) = true := decide_eq_true (by omega)
      have b1n : decide (j < t.size) = true := decide_eq_true hjs
      have hx := HNO.out j hjs hlt
      have b2 : (((t[j]'hjs).toNat : Int) == 46) = false := beq_eq_false_iff_ne.2 (by omega)
      have b2n : ((t[j]'hjs).toNat == 46) = false := beq_eq_false_iff_ne.2 hx
      clear hx
      go_wp2
      go_roundg (I + 1 - (j + 1))
      case measure => have := HGG.out; omega
      case rel => exact ⟨j + 1, rfl, by omega, by first | rfl | go_num, rfl⟩
    · have hjI : j = I := by omega
      subst hjI
      clear hlt hji
      obtain ⟨hjs, h46, hrl, hsz⟩ := HPT.out
      have b1 : decide ((j : Int) < (t.size : Int)) = true := decide_eq_true (by omega)
      have b1n : decide (j < t.size) = true := decide_eq_true hjs
      have b2 : (((t[j]'hjs).toNat : Int) == 46) = true := beq_iff_eq.2 (by omega)
      have b2n : ((t[j]'hjs).toNat == 46) = true := beq_iff_eq.2 h46
      have hpl : (t.size : Int) - (j : Int) - 1 = (r.size : Int) := by omega
      have hmx : max (0 : Int) (r.size : Int) = (r.size : Int) := by omega
      clear h46 hrl hsz
      have b3 : decide (60 < (s.size : Int)) = false := decide_eq_false (by have := HL.out; omega)
      have b3n : decide (60 < s.size) = false := decide_eq_false (by have := HL.out; omega)
      have b4 : decide ((r.size : Int) < 1) = false := decide_eq_false (by have := HR.out; omega)
      have b4n : decide (r.size < 1) = false := decide_eq_false (by have := HR.out; omega)
      have b5 : decide (20 < (r.size : Int)) = false := decide_eq_false (by have := HR.out; omega)
      have b5n : decide (20 < r.size) = false := decide_eq_false (by have := HR.out; omega)
      have hex := HEX.out
      have hj0 : (j : Int) ≤ (t.size : Int) := by omega
      go_wp2_with fail
      refine (HGN.out _).mono ?_
      rintro ev w2 ⟨⟨_, hr2⟩, hg2⟩
      obtain rfl := hr2 HN.out
      have HG2 := Lib.hid (HG0.out.tr hg2)
      have HB2 := Lib.hid (hg2.heap HBK.out)
      clear hr2 hg2 hex
      have y0 := heap_cell HB2.out 0
      have y1 := heap_cell HB2.out 1
      have y2 := heap_cell HB2.out 2
      have g0 := heap_frz HB2.out 0
      have g1 := heap_frz HB2.out 1
      have g2 := heap_frz HB2.out 2
      have HE := Lib.hid (three_set w2 w.heap.size (.bool false) (.slice none 0 0) (.slice none 0 0) _ _ _ y0 y1 y2 (fun n h => by cases h) (fun n h => by cases h) (fun n h => by cases h))
      go_wp2
      (try simp only [Exit.inBlock, Exit.then])
      refine bodyPost_ret (ret_getdec _ _ _ _ _ HE.out.1 _ rfl rfl rfl) rfl ?_
      exact ⟨rfl, HE.out.2.2 w HG2.out (Nat.le_refl _)⟩
set_option maxRecDepth 100000 in
set_option maxHeartbeats 8000000 in
theorem rdget_nonum_nf (s t a r : ByteArray) (hs : s.size ≤ 240) (hp : Parts s t true) (I : Nat) (hI : I ≤ t.size) (hex : t.extract 0 I = a) (hno : ∀ j (hj : j < t.size), j < I → (t[j]'hj).toNat ≠ 46) (HPT : Hid (I = t.size)) (HL : Hid (s.size ≤ 60)) (HN : Hid (¬ NumT a)) (w : World) :
    Calls Tryz.prog 17 #[.string s] w fun e w' => e = .returned (.tuple #[.agg #[.bool false, .slice none 0 0, .slice none 0 0], .int .i64 0, .bool false]) ∧ Gr w w' := by
  have HGN := Lib.hid (fun w => rgetN_calls a w)
  have z1 := size_parts hp
  have hts240 : t.size ≤ 240 := by omega
  obtain ⟨hpos, h45, e3⟩ : ∃ hpos : 0 < s.size, (s[0]'hpos).toNat = 45 ∧ s.extract 1 s.size = t := by
    rcases hp with ⟨_, h1, h2, h3⟩ | ⟨h1, _⟩
    · exact ⟨h1, h2, h3.symm⟩
    · cases h1
  have e2 : (((s[0]'hpos).toNat : Int) == 45) = true := beq_iff_eq.2 (by omega)
  have hp1 : (1 : Int) ≤ (s.size : Int) := by omega
  have e1 : s.toList.isEmpty = false := by rw [empty_iff]; exact decide_eq_false (fun e => by have := Lib.size_eq s; rw [e] at this; simp only [List.length_nil] at this; omega)
  have HNO := Lib.hid hno
  have HEX := Lib.hid hex
  have HZ := Lib.hid (And.intro hs z1)
  clear hp z1 hno hex h45
  have hbk := heap_alloc_new w (.cells #[.bool false, .slice none 0 0, .slice none 0 0] 29)
  have HBK := Lib.hid hbk
  have HG0 : Hid (Gr w (w.alloc (.cells #[.bool false, .slice none 0 0, .slice none 0 0] 29))) := Lib.hid ((Gr.rf w).alloc (Nat.le_refl _) _)
  clear hbk
  go_enter Tryz.func17, Tryz.ntmps17
  go_wp2_with fail
  go_quiet (fail)
  go_wp2_with fail
  have HG0 := Lib.hid (Gr.drew HG0.out nq)
  have HBK := Lib.hid ((Gr.drew (Gr.rf (w.alloc (.cells #[.bool false, .slice none 0 0, .slice none 0 0] 29))) nq).heap HBK.out)
  generalize (w.alloc (.cells #[.bool false, .slice none 0 0, .slice none 0 0] 29)).drewN nq = w0 at *
  go_loopg [7] (I + 1) (fun g k wr => ∃ j : Nat, g = I + 1 - j ∧ j ≤ I ∧ k = .int .i64 (j : Int) ∧ w0 = wr)
  case atStart => exact ⟨0, rfl, Nat.zero_le _, rfl, rfl⟩
  case round =>
    obtain ⟨j, hg, hji, rfl, rfl⟩ := hrel
    have HGG := Lib.hid hg
    clear hg
    by_cases hlt : j < I
    · have hjs : j < t.size := by omega
      have b1 : decide ((j : Int) < (t.size : Int)) = true := decide_eq_true (by omega)
      have b1n : decide (j < t.size) = true := decide_eq_true hjs
      have hx := HNO.out j hjs hlt
      have b2 : (((t[j]'hjs).toNat : Int) == 46) = false := beq_eq_false_iff_ne.2 (by omega)
      have b2n : ((t[j]'hjs).toNat == 46) = false := beq_eq_false_iff_ne.2 hx
      clear hx
      go_wp2
      go_roundg (I + 1 - (j + 1))
      case measure => have := HGG.out; omega
      case rel => exact ⟨j + 1, rfl, by omega, by first | rfl | go_num, rfl⟩
    · have hjI : j = I := by omega
      subst hjI
      clear hlt hji
      have hje := HPT.out
      have b1 : decide ((j : Int) < (t.size : Int)) = false := decide_eq_false (by omega)
      have b1n : decide (j < t.size) = false := decide_eq_false (by omega)
      have hpl : (t.size : Int) - (j : Int) - 1 = -1 := by omega
      have hmx : max (0 : Int) (-1) = 0 := by decide
      clear hje
      have b3 : decide (60 < (s.size : Int)) = false := decide_eq_false (by have := HL.out; omega)
      have b3n : decide (60 < s.size) = false := decide_eq_false (by have := HL.out; omega)
      have hex := HEX.out
      have hj0 : (j : Int) ≤ (t.size : Int) := by omega
      go_wp2_with fail
      refine (HGN.out _).mono ?_
      rintro ev w2 ⟨⟨_, hr2⟩, hg2⟩
      obtain rfl := hr2 HN.out
      have HG2 := Lib.hid (HG0.out.tr hg2)
      have HB2 := Lib.hid (hg2.heap HBK.out)
      clear hr2 hg2 hex
      have y0 := heap_cell HB2.out 0
      have y1 := heap_cell HB2.out 1
      have y2 := heap_cell HB2.out 2
      have g0 := heap_frz HB2.out 0
      have g1 := heap_frz HB2.out 1
      have g2 := heap_frz HB2.out 2
      have HE := Lib.hid (three_set w2 w.heap.size (.bool false) (.slice none 0 0) (.slice none 0 0) _ _ _ y0 y1 y2 (fun n h => by cases h) (fun n h => by cases h) (fun n h => by cases h))
      go_wp2
      (try simp only [Exit.inBlock, Exit.then])
      refine bodyPost_ret (ret_getdec _ _ _ _ _ HE.out.1 _ rfl rfl rfl) rfl ?_
      exact ⟨rfl, HE.out.2.2 w HG2.out (Nat.le_refl _)⟩
set_option maxRecDepth 100000 in
set_option maxHeartbeats 8000000 in
theorem rdget_nonum_pt (s t a r : ByteArray) (hs : s.size ≤ 240) (hp : Parts s t false) (hne : 0 < s.size) (I : Nat) (hI : I ≤ t.size) (hex : t.extract 0 I = a) (hno : ∀ j (hj : j < t.size), j < I → (t[j]'hj).toNat ≠ 46) (HPT : Hid (∃ hI : I < t.size, (t[I]'hI).toNat = 46 ∧ t.data.toList.drop (I + 1) = r.data.toList ∧ I + 1 + r.size = t.size)) (HL : Hid (s.size ≤ 60)) (HR : Hid (1 ≤ r.size ∧ r.size ≤ 20)) (HN : Hid (¬ NumT a)) (w : World) :
    Calls Tryz.prog 17 #[.string s] w fun e w' => e = .returned (.tuple #[.agg #[.bool false, .slice none 0 0, .slice none 0 0], .int .i64 0, .bool false]) ∧ Gr w w' := by
  have HGN := Lib.hid (fun w => rgetN_calls a w)
  have z1 := size_parts hp
  obtain ⟨hts, h45⟩ : t = s ∧ ∀ h : 0 < s.size, (s[0]'h).toNat ≠ 45 := by
    rcases hp with ⟨h1, _⟩ | ⟨_, h2, h3⟩
    · cases h1
    · exact ⟨h2, h3⟩
  subst hts
  have hpos : 0 < t.size := hne
  have e2 : (((t[0]'hpos).toNat : Int) == 45) = false := beq_eq_false_iff_ne.2 (by have := h45 hpos; omega)
  have e1 : t.toList.isEmpty = false := by rw [empty_iff]; exact decide_eq_false (fun e => by have := Lib.size_eq t; rw [e] at this; simp only [List.length_nil] at this; omega)
  have HNO := Lib.hid hno
  have HEX := Lib.hid hex
  have HZ := Lib.hid (And.intro hs z1)
  clear hp z1 hno hex h45
  have hbk := heap_alloc_new w (.cells #[.bool false, .slice none 0 0, .slice none 0 0] 29)
  have HBK := Lib.hid hbk
  have HG0 : Hid (Gr w (w.alloc (.cells #[.bool false, .slice none 0 0, .slice none 0 0] 29))) := Lib.hid ((Gr.rf w).alloc (Nat.le_refl _) _)
  clear hbk
  go_enter Tryz.func17, Tryz.ntmps17
  go_wp2_with fail
  go_quiet (fail)
  go_wp2_with fail
  have HG0 := Lib.hid (Gr.drew HG0.out nq)
  have HBK := Lib.hid ((Gr.drew (Gr.rf (w.alloc (.cells #[.bool false, .slice none 0 0, .slice none 0 0] 29))) nq).heap HBK.out)
  generalize (w.alloc (.cells #[.bool false, .slice none 0 0, .slice none 0 0] 29)).drewN nq = w0 at *
  go_loopg [7] (I + 1) (fun g k wr => ∃ j : Nat, g = I + 1 - j ∧ j ≤ I ∧ k = .int .i64 (j : Int) ∧ w0 = wr)
  case atStart => exact ⟨0, rfl, Nat.zero_le _, rfl, rfl⟩
  case round =>
    obtain ⟨j, hg, hji, rfl, rfl⟩ := hrel
    have HGG := Lib.hid hg
    clear hg
    by_cases hlt : j < I
    · have hjs : j < t.size := by omega
      have b1 : decide ((j : Int) < (t.size : Int)) = true := decide_eq_true (by omega)
      have b1n : decide (j < t.size) = true := decide_eq_true hjs
      have hx := HNO.out j hjs hlt
      have b2 : (((t[j]'hjs).toNat : Int) == 46) = false := beq_eq_false_iff_ne.2 (by omega)
      have b2n : ((t[j]'hjs).toNat == 46) = false := beq_eq_false_iff_ne.2 hx
      clear hx
      go_wp2
      go_roundg (I + 1 - (j + 1))
      case measure => have := HGG.out; omega
      case rel => exact ⟨j + 1, rfl, by omega, by first | rfl | go_num, rfl⟩
    · have hjI : j = I := by omega
      subst hjI
      clear hlt hji
      obtain ⟨hjs, h46, hrl, hsz⟩ := HPT.out
      have b1 : decide ((j : Int) < (t.size : Int)) = true := decide_eq_true (by omega)
      have b1n : decide (j < t.size) = true := decide_eq_true hjs
      have b2 : (((t[j]'hjs).toNat : Int) == 46) = true := beq_iff_eq.2 (by omega)
      have b2n : ((t[j]'hjs).toNat == 46) = true := beq_iff_eq.2 h46
      have hpl : (t.size : Int) - (j : Int) - 1 = (r.size : Int) := by omega
      have hmx : max (0 : Int) (r.size : Int) = (r.size : Int) := by omega
      clear h46 hrl hsz
      have b3 : decide (60 < (t.size : Int)) = false := decide_eq_false (by have := HL.out; omega)
      have b3n : decide (60 < t.size) = false := decide_eq_false (by have := HL.out; omega)
      have b4 : decide ((r.size : Int) < 1) = false := decide_eq_false (by have := HR.out; omega)
      have b4n : decide (r.size < 1) = false := decide_eq_false (by have := HR.out; omega)
      have b5 : decide (20 < (r.size : Int)) = false := decide_eq_false (by have := HR.out; omega)
      have b5n : decide (20 < r.size) = false := decide_eq_false (by have := HR.out; omega)
      have hex := HEX.out
      have hj0 : (j : Int) ≤ (t.size : Int) := by omega
      go_wp2_with fail
      refine (HGN.out _).mono ?_
      rintro ev w2 ⟨⟨_, hr2⟩, hg2⟩
      obtain rfl := hr2 HN.out
      have HG2 := Lib.hid (HG0.out.tr hg2)
      have HB2 := Lib.hid (hg2.heap HBK.out)
      clear hr2 hg2 hex
      have y0 := heap_cell HB2.out 0
      have y1 := heap_cell HB2.out 1
      have y2 := heap_cell HB2.out 2
      have g0 := heap_frz HB2.out 0
      have g1 := heap_frz HB2.out 1
      have g2 := heap_frz HB2.out 2
      have HE := Lib.hid (three_set w2 w.heap.size (.bool false) (.slice none 0 0) (.slice none 0 0) _ _ _ y0 y1 y2 (fun n h => by cases h) (fun n h => by cases h) (fun n h => by cases h))
      go_wp2
      (try simp only [Exit.inBlock, Exit.then])
      refine bodyPost_ret (ret_getdec _ _ _ _ _ HE.out.1 _ rfl rfl rfl) rfl ?_
      exact ⟨rfl, HE.out.2.2 w HG2.out (Nat.le_refl _)⟩
set_option maxRecDepth 100000 in
set_option maxHeartbeats 8000000 in
theorem rdget_nonum_pf (s t a r : ByteArray) (hs : s.size ≤ 240) (hp : Parts s t false) (hne : 0 < s.size) (I : Nat) (hI : I ≤ t.size) (hex : t.extract 0 I = a) (hno : ∀ j (hj : j < t.size), j < I → (t[j]'hj).toNat ≠ 46) (HPT : Hid (I = t.size)) (HL : Hid (s.size ≤ 60)) (HN : Hid (¬ NumT a)) (w : World) :
    Calls Tryz.prog 17 #[.string s] w fun e w' => e = .returned (.tuple #[.agg #[.bool false, .slice none 0 0, .slice none 0 0], .int .i64 0, .bool false]) ∧ Gr w w' := by
  have HGN := Lib.hid (fun w => rgetN_calls a w)
  have z1 := size_parts hp
  obtain ⟨hts, h45⟩ : t = s ∧ ∀ h : 0 < s.size, (s[0]'h).toNat ≠ 45 := by
    rcases hp with ⟨h1, _⟩ | ⟨_, h2, h3⟩
    · cases h1
    · exact ⟨h2, h3⟩
  subst hts
  have hpos : 0 < t.size := hne
  have e2 : (((t[0]'hpos).toNat : Int) == 45) = false := beq_eq_false_iff_ne.2 (by have := h45 hpos; omega)
  have e1 : t.toList.isEmpty = false := by rw [empty_iff]; exact decide_eq_false (fun e => by have := Lib.size_eq t; rw [e] at this; simp only [List.length_nil] at this; omega)
  have HNO := Lib.hid hno
  have HEX := Lib.hid hex
  have HZ := Lib.hid (And.intro hs z1)
  clear hp z1 hno hex h45
  have hbk := heap_alloc_new w (.cells #[.bool false, .slice none 0 0, .slice none 0 0] 29)
  have HBK := Lib.hid hbk
  have HG0 : Hid (Gr w (w.alloc (.cells #[.bool false, .slice none 0 0, .slice none 0 0] 29))) := Lib.hid ((Gr.rf w).alloc (Nat.le_refl _) _)
  clear hbk
  go_enter Tryz.func17, Tryz.ntmps17
  go_wp2_with fail
  go_quiet (fail)
  go_wp2_with fail
  have HG0 := Lib.hid (Gr.drew HG0.out nq)
  have HBK := Lib.hid ((Gr.drew (Gr.rf (w.alloc (.cells #[.bool false, .slice none 0 0, .slice none 0 0] 29))) nq).heap HBK.out)
  generalize (w.alloc (.cells #[.bool false, .slice none 0 0, .slice none 0 0] 29)).drewN nq = w0 at *
  go_loopg [7] (I + 1) (fun g k wr => ∃ j : Nat, g = I + 1 - j ∧ j ≤ I ∧ k = .int .i64 (j : Int) ∧ w0 = wr)
  case atStart => exact ⟨0, rfl, Nat.zero_le _, rfl, rfl⟩
  case round =>
    obtain ⟨j, hg, hji, rfl, rfl⟩ := hrel
    have HGG := Lib.hid hg
    clear hg
    by_cases hlt : j < I
    · have hjs : j < t.size := by omega
      have b1 : decide ((j : Int) < (t.size : Int)) = true := decide_eq_true (by omega)
      have b1n : decide (j < t.size) = true := decide_eq_true hjs
      have hx := HNO.out j hjs hlt
      have b2 : (((t[j]'hjs).toNat : Int) == 46) = false := beq_eq_false_iff_ne.2 (by omega)
      have b2n : ((t[j]'hjs).toNat == 46) = false := beq_eq_false_iff_ne.2 hx
      clear hx
      go_wp2
      go_roundg (I + 1 - (j + 1))
      case measure => have := HGG.out; omega
      case rel => exact ⟨j + 1, rfl, by omega, by first | rfl | go_num, rfl⟩
    · have hjI : j = I := by omega
      subst hjI
      clear hlt hji
      have hje := HPT.out
      have b1 : decide ((j : Int) < (t.size : Int)) = false := decide_eq_false (by omega)
      have b1n : decide (j < t.size) = false := decide_eq_false (by omega)
      have hpl : (t.size : Int) - (j : Int) - 1 = -1 := by omega
      have hmx : max (0 : Int) (-1) = 0 := by decide
      clear hje
      have b3 : decide (60 < (t.size : Int)) = false := decide_eq_false (by have := HL.out; omega)
      have b3n : decide (60 < t.size) = false := decide_eq_false (by have := HL.out; omega)
      have hex := HEX.out
      have hj0 : (j : Int) ≤ (t.size : Int) := by omega
      go_wp2_with fail
      refine (HGN.out _).mono ?_
      rintro ev w2 ⟨⟨_, hr2⟩, hg2⟩
      obtain rfl := hr2 HN.out
      have HG2 := Lib.hid (HG0.out.tr hg2)
      have HB2 := Lib.hid (hg2.heap HBK.out)
      clear hr2 hg2 hex
      have y0 := heap_cell HB2.out 0
      have y1 := heap_cell HB2.out 1
      have y2 := heap_cell HB2.out 2
      have g0 := heap_frz HB2.out 0
      have g1 := heap_frz HB2.out 1
      have g2 := heap_frz HB2.out 2
      have HE := Lib.hid (three_set w2 w.heap.size (.bool false) (.slice none 0 0) (.slice none 0 0) _ _ _ y0 y1 y2 (fun n h => by cases h) (fun n h => by cases h) (fun n h => by cases h))
      go_wp2
      (try simp only [Exit.inBlock, Exit.then])
      refine bodyPost_ret (ret_getdec _ _ _ _ _ HE.out.1 _ rfl rfl rfl) rfl ?_
      exact ⟨rfl, HE.out.2.2 w HG2.out (Nat.le_refl _)⟩
set_option maxRecDepth 100000 in
set_option maxHeartbeats 8000000 in
theorem rdget_nonum_ef (s t a r : ByteArray) (hs : s.size ≤ 240) (hp : Parts s t false) (hne : s.size = 0) (I : Nat) (hI : I ≤ t.size) (hex : t.extract 0 I = a) (hno : ∀ j (hj : j < t.size), j < I → (t[j]'hj).toNat ≠ 46) (HPT : Hid (I = t.size)) (HL : Hid (s.size ≤ 60)) (HN : Hid (¬ NumT a)) (w : World) :
    Calls Tryz.prog 17 #[.string s] w fun e w' => e = .returned (.tuple #[.agg #[.bool false, .slice none 0 0, .slice none 0 0], .int .i64 0, .bool false]) ∧ Gr w w' := by
  have HGN := Lib.hid (fun w => rgetN_calls a w)
  have z1 := size_parts hp
  obtain ⟨hts, h45⟩ : t = s ∧ ∀ h : 0 < s.size, (s[0]'h).toNat ≠ 45 := by
    rcases hp with ⟨h1, _⟩ | ⟨_, h2, h3⟩
    · cases h1
    · exact ⟨h2, h3⟩
  subst hts
  have e1 : t.toList.isEmpty = true := by rw [empty_iff]; exact decide_eq_true (List.eq_nil_of_length_eq_zero (by rw [← Lib.size_eq]; exact hne))
  have HNO := Lib.hid hno
  have HEX := Lib.hid hex
  have HZ := Lib.hid (And.intro hs z1)
  clear hp z1 hno hex h45 hne
  have hbk := heap_alloc_new w (.cells #[.bool false, .slice none 0 0, .slice none 0 0] 29)
  have HBK := Lib.hid hbk
  have HG0 : Hid (Gr w (w.alloc (.cells #[.bool false, .slice none 0 0, .slice none 0 0] 29))) := Lib.hid ((Gr.rf w).alloc (Nat.le_refl _) _)
  clear hbk
  go_enter Tryz.func17, Tryz.ntmps17
  go_wp2_with fail
  go_quiet (fail)
  go_wp2_with fail
  have HG0 := Lib.hid (Gr.drew HG0.out nq)
  have HBK := Lib.hid ((Gr.drew (Gr.rf (w.alloc (.cells #[.bool false, .slice none 0 0, .slice none 0 0] 29))) nq).heap HBK.out)
  generalize (w.alloc (.cells #[.bool false, .slice none 0 0, .slice none 0 0] 29)).drewN nq = w0 at *
  go_loopg [7] (I + 1) (fun g k wr => ∃ j : Nat, g = I + 1 - j ∧ j ≤ I ∧ k = .int .i64 (j : Int) ∧ w0 = wr)
  case atStart => exact ⟨0, rfl, Nat.zero_le _, rfl, rfl⟩
  case round =>
    obtain ⟨j, hg, hji, rfl, rfl⟩ := hrel
    have HGG := Lib.hid hg
    clear hg
    by_cases hlt : j < I
    · have hjs : j < t.size := by omega
      have b1 : decide ((j : Int) < (t.size : Int)) = true := decide_eq_true (by omega)
      have b1n : decide (j < t.size) = true := decide_eq_true hjs
      have hx := HNO.out j hjs hlt
      have b2 : (((t[j]'hjs).toNat : Int) == 46) = false := beq_eq_false_iff_ne.2 (by omega)
      have b2n : ((t[j]'hjs).toNat == 46) = false := beq_eq_false_iff_ne.2 hx
      clear hx
      go_wp2
      go_roundg (I + 1 - (j + 1))
      case measure => have := HGG.out; omega
      case rel => exact ⟨j + 1, rfl, by omega, by first | rfl | go_num, rfl⟩
    · have hjI : j = I := by omega
      subst hjI
      clear hlt hji
      have hje := HPT.out
      have b1 : decide ((j : Int) < (t.size : Int)) = false := decide_eq_false (by omega)
      have b1n : decide (j < t.size) = false := decide_eq_false (by omega)
      have hpl : (t.size : Int) - (j : Int) - 1 = -1 := by omega
      have hmx : max (0 : Int) (-1) = 0 := by decide
      clear hje
      have b3 : decide (60 < (t.size : Int)) = false := decide_eq_false (by have := HL.out; omega)
      have b3n : decide (60 < t.size) = false := decide_eq_false (by have := HL.out; omega)
      have hex := HEX.out
      have hj0 : (j : Int) ≤ (t.size : Int) := by omega
      go_wp2_with fail
      refine (HGN.out _).mono ?_
      rintro ev w2 ⟨⟨_, hr2⟩, hg2⟩
      obtain rfl := hr2 HN.out
      have HG2 := Lib.hid (HG0.out.tr hg2)
      have HB2 := Lib.hid (hg2.heap HBK.out)
      clear hr2 hg2 hex
      have y0 := heap_cell HB2.out 0
      have y1 := heap_cell HB2.out 1
      have y2 := heap_cell HB2.out 2
      have g0 := heap_frz HB2.out 0
      have g1 := heap_frz HB2.out 1
      have g2 := heap_frz HB2.out 2
      have HE := Lib.hid (three_set w2 w.heap.size (.bool false) (.slice none 0 0) (.slice none 0 0) _ _ _ y0 y1 y2 (fun n h => by cases h) (fun n h => by cases h) (fun n h => by cases h))
      go_wp2
      (try simp only [Exit.inBlock, Exit.then])
      refine bodyPost_ret (ret_getdec _ _ _ _ _ HE.out.1 _ rfl rfl rfl) rfl ?_
      exact ⟨rfl, HE.out.2.2 w HG2.out (Nat.le_refl _)⟩
set_option maxRecDepth 100000 in
set_option maxHeartbeats 8000000 in
theorem rdget_whole_p (s t a r : ByteArray) (hs : s.size ≤ 240) (hp : Parts s t false) (hne : 0 < s.size) (I : Nat) (hI : I ≤ t.size) (hex : t.extract 0 I = a) (hno : ∀ j (hj : j < t.size), j < I → (t[j]'hj).toNat ≠ 46) (HPT : Hid (I = t.size)) (HL : Hid (s.size ≤ 60)) (HN : Hid (NumT a)) (w : World) :
    Calls Tryz.prog 17 #[.string s] w fun e w' => (∃ va vb, e = .returned (.tuple #[.agg #[.bool false, va, vb], .int .i64 0, .bool true]) ∧ RN w' va (dv a.data.toList) ∧ RN w' vb (10 ^ 0)) ∧ Gr w w' := by
  have HGN := Lib.hid (fun w => rgetN_calls a w)
  have z1 := size_parts hp
  obtain ⟨hts, h45⟩ : t = s ∧ ∀ h : 0 < s.size, (s[0]'h).toNat ≠ 45 := by
    rcases hp with ⟨h1, _⟩ | ⟨_, h2, h3⟩
    · cases h1
    · exact ⟨h2, h3⟩
  subst hts
  have hpos : 0 < t.size := hne
  have e2 : (((t[0]'hpos).toNat : Int) == 45) = false := beq_eq_false_iff_ne.2 (by have := h45 hpos; omega)
  have e1 : t.toList.isEmpty = false := by rw [empty_iff]; exact decide_eq_false (fun e => by have := Lib.size_eq t; rw [e] at this; simp only [List.length_nil] at this; omega)
  have HNO := Lib.hid hno
  have HEX := Lib.hid hex
  have HZ := Lib.hid (And.intro hs z1)
  clear hp z1 hno hex h45
  have hbk := heap_alloc_new w (.cells #[.bool false, .slice none 0 0, .slice none 0 0] 29)
  have HBK := Lib.hid hbk
  have HG0 : Hid (Gr w (w.alloc (.cells #[.bool false, .slice none 0 0, .slice none 0 0] 29))) := Lib.hid ((Gr.rf w).alloc (Nat.le_refl _) _)
  clear hbk
  go_enter Tryz.func17, Tryz.ntmps17
  go_wp2_with fail
  go_quiet (fail)
  go_wp2_with fail
  have HG0 := Lib.hid (Gr.drew HG0.out nq)
  have HBK := Lib.hid ((Gr.drew (Gr.rf (w.alloc (.cells #[.bool false, .slice none 0 0, .slice none 0 0] 29))) nq).heap HBK.out)
  generalize (w.alloc (.cells #[.bool false, .slice none 0 0, .slice none 0 0] 29)).drewN nq = w0 at *
  go_loopg [7] (I + 1) (fun g k wr => ∃ j : Nat, g = I + 1 - j ∧ j ≤ I ∧ k = .int .i64 (j : Int) ∧ w0 = wr)
  case atStart => exact ⟨0, rfl, Nat.zero_le _, rfl, rfl⟩
  case round =>
    obtain ⟨j, hg, hji, rfl, rfl⟩ := hrel
    have HGG := Lib.hid hg
    clear hg
    by_cases hlt : j < I
    · have hjs : j < t.size := by omega
      have b1 : decide ((j : Int) < (t.size : Int)) = true := decide_eq_true (by omega)
      have b1n : decide (j < t.size) = true := decide_eq_true hjs
      have hx := HNO.out j hjs hlt
      have b2 : (((t[j]'hjs).toNat : Int) == 46) = false := beq_eq_false_iff_ne.2 (by omega)
      have b2n : ((t[j]'hjs).toNat == 46) = false := beq_eq_false_iff_ne.2 hx
      clear hx
      go_wp2
      go_roundg (I + 1 - (j + 1))
      case measure => have := HGG.out; omega
      case rel => exact ⟨j + 1, rfl, by omega, by first | rfl | go_num, rfl⟩
    · have hjI : j = I := by omega
      subst hjI
      clear hlt hji
      have hje := HPT.out
      have b1 : decide ((j : Int) < (t.size : Int)) = false := decide_eq_false (by omega)
      have b1n : decide (j < t.size) = false := decide_eq_false (by omega)
      have hpl : (t.size : Int) - (j : Int) - 1 = -1 := by omega
      have hmx : max (0 : Int) (-1) = 0 := by decide
      clear hje
      have b3 : decide (60 < (t.size : Int)) = false := decide_eq_false (by have := HL.out; omega)
      have b3n : decide (60 < t.size) = false := decide_eq_false (by have := HL.out; omega)
      have hex := HEX.out
      have hj0 : (j : Int) ≤ (t.size : Int) := by omega
      go_wp2_with fail
      refine (HGN.out _).mono ?_
      rintro ev w2 ⟨⟨hr1, _⟩, hg2⟩
      obtain ⟨v2, rfl, hv2⟩ := hr1 HN.out
      have HV2 := Lib.hid hv2
      have HG2 := Lib.hid (HG0.out.tr hg2)
      have HB2 := Lib.hid (hg2.heap HBK.out)
      clear hr1 hg2 hv2 hex
      obtain ⟨va, vc, rfl⟩ := rn_len HV2.out
      generalize (Dg.digs (dv a.data.toList)).length = vl at *
      have hj1 : decide ((j : Int) + 1 < (t.size : Int)) = false := decide_eq_false (by omega)
      have hw1 : IntKind.i64.wrap ((j : Int) + 1) = (j : Int) + 1 := by rw [IntKind.wrap_i64]; have := HZ.out; omega
      go_wp2_with fail
      go_loopg [9, 11] 1 (fun g n i wr => g = 1 ∧ n = .slice va vl vc ∧ i = .int .i64 ((j : Int) + 1) ∧ w2 = wr)
      case atStart => exact ⟨rfl, rfl, rfl, rfl⟩
      case round =>
        obtain ⟨rfl, rfl, rfl, rfl⟩ := hrel
        have HOU : Hid (∀ w', Calls Tryz.prog 27 #[.int .u64 10] w' fun e w2 => (∃ r, e = .returned r ∧ RN w2 r 10) ∧ Gr w' w2) := Lib.hid (fun w' => r_ofU 10 (by decide) w')
        go_wp2_with (go_at_call 27; (with_reducible refine (HOU.out _).mono ?_); rintro ev w5 ⟨⟨r5, rfl, hr5⟩, hg5⟩; have HR5 := Lib.hid hr5; have HG5 := Lib.hid hg5; clear hr5 hg5)
        have hpw := r_pow (w := w5) HR5.out 0 (k := 4) (by decide) (by decide) (by decide) (by decide) (by decide)
        rw [show ((0 : Nat) : Int) = 0 from rfl] at hpw
        have HPW := Lib.hid hpw
        clear hpw
        go_wp2_with fail
        refine HPW.out.mono ?_
        rintro ev w6 ⟨⟨r6, rfl, hr6⟩, hg6⟩
        have HR6 := Lib.hid hr6
        obtain ⟨a6, l6, c6, rfl⟩ : ∃ x l c, r6 = .slice x l c := by
          obtain ⟨x, c, h⟩ := rn_len hr6
          exact ⟨x, _, c, h⟩
        have HG6 := Lib.hid (HG5.out.tr hg6)
        have HB6 := Lib.hid (HG6.out.heap HB2.out)
        clear hr6 hg6
        have y0 := heap_cell HB6.out 0
        have y1 := heap_cell HB6.out 1
        have y2 := heap_cell HB6.out 2
        have g0 := heap_frz HB6.out 0
        have g1 := heap_frz HB6.out 1
        have g2 := heap_frz HB6.out 2
        have HE := Lib.hid (three_set w6 w.heap.size (.bool false) (.slice va vl vc) (.slice a6 l6 c6) _ _ _ y0 y1 y2 (fun n h => by cases h) (fun n h => by cases h) (fun n h => by cases h))
        go_wp2
        (try simp only [Exit.inBlock, Exit.then])
        refine bodyPost_ret (ret_getdec _ _ _ _ _ HE.out.1 _ rfl rfl rfl) rfl ?_
        exact ⟨⟨_, _, rfl, show RN _ _ _ from HE.out.2.1 _ _ (HV2.out.gr HG6.out), show RN _ _ _ from HE.out.2.1 _ _ HR6.out⟩, HE.out.2.2 w (HG2.out.tr HG6.out) (Nat.le_refl _)⟩
set_option maxRecDepth 100000 in
set_option maxHeartbeats 8000000 in
theorem rdget_point_p (s t a r : ByteArray) (hs : s.size ≤ 240) (hp : Parts s t false) (hne : 0 < s.size) (I : Nat) (hI : I ≤ t.size) (hex : t.extract 0 I = a) (hno : ∀ j (hj : j < t.size), j < I → (t[j]'hj).toNat ≠ 46) (HPT : Hid (∃ hI : I < t.size, (t[I]'hI).toNat = 46 ∧ t.data.toList.drop (I + 1) = r.data.toList ∧ I + 1 + r.size = t.size)) (HL : Hid (s.size ≤ 60)) (HR : Hid (1 ≤ r.size ∧ r.size ≤ 20)) (HN : Hid (NumT a)) (HD : Hid (Dig r.data.toList)) (w : World) :
    Calls Tryz.prog 17 #[.string s] w fun e w' => (∃ va vb, e = .returned (.tuple #[.agg #[.bool false, va, vb], .int .i64 (r.size : Int), .bool true]) ∧ RN w' va (dv (a.data.toList ++ r.data.toList)) ∧ RN w' vb (10 ^ r.size)) ∧ Gr w w' := by
  have HGN := Lib.hid (fun w => rgetN_calls a w)
  have HAZ : Hid (a.size ≤ 240) := Lib.hid (by rw [← hex, ByteArray.size_extract]; have := size_parts hp; omega)
  have z1 := size_parts hp
  obtain ⟨hts, h45⟩ : t = s ∧ ∀ h : 0 < s.size, (s[0]'h).toNat ≠ 45 := by
    rcases hp with ⟨h1, _⟩ | ⟨_, h2, h3⟩
    · cases h1
    · exact ⟨h2, h3⟩
  subst hts
  have hpos : 0 < t.size := hne
  have e2 : (((t[0]'hpos).toNat : Int) == 45) = false := beq_eq_false_iff_ne.2 (by have := h45 hpos; omega)
  have e1 : t.toList.isEmpty = false := by rw [empty_iff]; exact decide_eq_false (fun e => by have := Lib.size_eq t; rw [e] at this; simp only [List.length_nil] at this; omega)
  have HNO := Lib.hid hno
  have HEX := Lib.hid hex
  have HZ := Lib.hid (And.intro hs z1)
  clear hp z1 hno hex h45
  have hbk := heap_alloc_new w (.cells #[.bool false, .slice none 0 0, .slice none 0 0] 29)
  have HBK := Lib.hid hbk
  have HG0 : Hid (Gr w (w.alloc (.cells #[.bool false, .slice none 0 0, .slice none 0 0] 29))) := Lib.hid ((Gr.rf w).alloc (Nat.le_refl _) _)
  clear hbk
  go_enter Tryz.func17, Tryz.ntmps17
  go_wp2_with fail
  go_quiet (fail)
  go_wp2_with fail
  have HG0 := Lib.hid (Gr.drew HG0.out nq)
  have HBK := Lib.hid ((Gr.drew (Gr.rf (w.alloc (.cells #[.bool false, .slice none 0 0, .slice none 0 0] 29))) nq).heap HBK.out)
  generalize (w.alloc (.cells #[.bool false, .slice none 0 0, .slice none 0 0] 29)).drewN nq = w0 at *
  go_loopg [7] (I + 1) (fun g k wr => ∃ j : Nat, g = I + 1 - j ∧ j ≤ I ∧ k = .int .i64 (j : Int) ∧ w0 = wr)
  case atStart => exact ⟨0, rfl, Nat.zero_le _, rfl, rfl⟩
  case round =>
    obtain ⟨j, hg, hji, rfl, rfl⟩ := hrel
    have HGG := Lib.hid hg
    clear hg
    by_cases hlt : j < I
    · have hjs : j < t.size := by omega
      have b1 : decide ((j : Int) < (t.size : Int)) = true := decide_eq_true (by omega)
      have b1n : decide (j < t.size) = true := decide_eq_true hjs
      have hx := HNO.out j hjs hlt
      have b2 : (((t[j]'hjs).toNat : Int) == 46) = false := beq_eq_false_iff_ne.2 (by omega)
      have b2n : ((t[j]'hjs).toNat == 46) = false := beq_eq_false_iff_ne.2 hx
      clear hx
      go_wp2
      go_roundg (I + 1 - (j + 1))
      case measure => have := HGG.out; omega
      case rel => exact ⟨j + 1, rfl, by omega, by first | rfl | go_num, rfl⟩
    · have hjI : j = I := by omega
      subst hjI
      clear hlt hji
      obtain ⟨hjs, h46, hrl, hsz⟩ := HPT.out
      have b1 : decide ((j : Int) < (t.size : Int)) = true := decide_eq_true (by omega)
      have b1n : decide (j < t.size) = true := decide_eq_true hjs
      have b2 : (((t[j]'hjs).toNat : Int) == 46) = true := beq_iff_eq.2 (by omega)
      have b2n : ((t[j]'hjs).toNat == 46) = true := beq_iff_eq.2 h46
      have hpl : (t.size : Int) - (j : Int) - 1 = (r.size : Int) := by omega
      have hmx : max (0 : Int) (r.size : Int) = (r.size : Int) := by omega
      clear h46 hrl hsz
      have b3 : decide (60 < (t.size : Int)) = false := decide_eq_false (by have := HL.out; omega)
      have b3n : decide (60 < t.size) = false := decide_eq_false (by have := HL.out; omega)
      have b4 : decide ((r.size : Int) < 1) = false := decide_eq_false (by have := HR.out; omega)
      have b4n : decide (r.size < 1) = false := decide_eq_false (by have := HR.out; omega)
      have b5 : decide (20 < (r.size : Int)) = false := decide_eq_false (by have := HR.out; omega)
      have b5n : decide (20 < r.size) = false := decide_eq_false (by have := HR.out; omega)
      have hex := HEX.out
      have hj0 : (j : Int) ≤ (t.size : Int) := by omega
      go_wp2_with fail
      refine (HGN.out _).mono ?_
      rintro ev w2 ⟨⟨hr1, _⟩, hg2⟩
      obtain ⟨v2, rfl, hv2⟩ := hr1 HN.out
      have HV2 := Lib.hid hv2
      have HG2 := Lib.hid (HG0.out.tr hg2)
      have HB2 := Lib.hid (hg2.heap HBK.out)
      clear hr1 hg2 hv2 hex
      have hw1 : IntKind.i64.wrap ((j : Int) + 1) = (j : Int) + 1 := by rw [IntKind.wrap_i64]; have := HZ.out; omega
      have HRL : Hid (∀ m (hm : m < r.data.toList.length), ∃ h : j + 1 + m < t.size, t[j + 1 + m]'h = r.data.toList[m]'hm) := Lib.hid (fun m hm => by
        obtain ⟨_, _, hrl, hsz⟩ := HPT.out
        have hms : j + 1 + m < t.size := by rw [← Lib.size_eq] at hm; omega
        refine ⟨hms, ?_⟩
        have hl2 : j + 1 + m < t.data.toList.length := by rw [← Lib.size_eq]; exact hms
        rw [← at_list t _ hms hl2]
        have := List.getElem_drop (xs := t.data.toList) (i := j + 1) (j := m) (h := by rw [hrl]; exact hm)
        rw [← this]
        congr 1)
      have hrs : r.data.toList.length = r.size := (Lib.size_eq r).symm
      have hts : j + 1 + r.size = t.size := by obtain ⟨_, _, _, hsz⟩ := HPT.out; exact hsz
      have HRS := Lib.hid (And.intro hrs hts)
      clear hrs hts
      go_wp2_with fail
      go_loopg [9, 11] (r.size + 1) (fun g n i wr => ∃ m : Nat, g = r.size + 1 - m ∧ m ≤ r.size ∧ i = .int .i64 ((j + 1 + m : Nat) : Int) ∧ Hid (RN wr n (dv (a.data.toList ++ r.data.toList.take m))) ∧ Hid (Dig (r.data.toList.take m)) ∧ Hid (Gr w2 wr))
      case atStart => exact ⟨0, rfl, Nat.zero_le _, by first | rfl | go_num, Lib.hid (by rw [List.take_zero, List.append_nil]; exact HV2.out), Lib.hid (by rw [List.take_zero]; intro c hc; cases hc), Lib.hid (Gr.rf _)⟩
      case round =>
        obtain ⟨m, hg, hm, rfl, HV, HDG, HGW⟩ := hrel
        have HGG2 := Lib.hid hg
        clear hg
        by_cases hlt : m < r.size
        · obtain ⟨hx, hxe⟩ := HRL.out m (by rw [HRS.out.1]; exact hlt)
          have c1 : decide (((j + 1 + m : Nat) : Int) < (t.size : Int)) = true := decide_eq_true (by omega)
          have c1n : decide (j + 1 + m < t.size) = true := decide_eq_true hx
          have hc0 : ((t[j + 1 + m]'hx).toNat : Int) < 256 := by have := (t[j + 1 + m]'hx).toNat_lt; omega
          have HXE := Lib.hid hxe
          clear hxe
          have hdd := HD.out (t[j + 1 + m]'hx) (by rw [HXE.out]; exact List.getElem_mem _)
          have hdd1 := hdd.1
          have hdd2 := hdd.2
          case' _ =>
            have c2 : decide (((t[j + 1 + m]'hx).toNat : Int) < 48) = false := decide_eq_false (by omega)
            have c2n : decide ((t[j + 1 + m]'hx).toNat < 48) = false := decide_eq_false (by omega)
            have c3 : decide (57 < ((t[j + 1 + m]'hx).toNat : Int)) = false := decide_eq_false (by omega)
            have c3n : decide (57 < (t[j + 1 + m]'hx).toNat) = false := decide_eq_false (by omega)
            have HNX := Lib.hid (dv_take_next a.data.toList r.data.toList m (by rw [HRS.out.1]; exact hlt))
            have HDN := Lib.hid (dig_take_next HDG.out (by rw [HRS.out.1]; exact hlt) (by rw [← HXE.out]; exact hdd1) (by rw [← HXE.out]; exact hdd2))
            have hNb : dv (a.data.toList ++ r.data.toList.take m) < Dg.D ^ 30 := dv_D _ (fun c hc => (List.mem_append.1 hc).elim (HN.out.2.2.2 c) (HDG.out c)) 30 (by rw [List.length_append, List.length_take, HRS.out.1, ← Lib.size_eq]; have := HAZ.out; have := HR.out; omega)
            generalize dv (a.data.toList ++ r.data.toList.take m) = M at *
            obtain ⟨y, hy⟩ : ∃ y : Nat, (t[j + 1 + m]'hx).toNat = y := ⟨_, rfl⟩
            obtain ⟨dg, hdg⟩ : ∃ dg : Nat, y = dg + 48 := ⟨y - 48, by omega⟩
            have hq1 : ((t[j + 1 + m]'hx).toNat : Int) - 48 = (dg : Int) := by omega
            have hq2 : IntKind.u8.wrap (dg : Int) = (dg : Int) := by rw [IntKind.wrap_u8]; omega
            have hq3 : IntKind.u64.wrap (dg : Int) = (dg : Int) := by rw [IntKind.wrap_u64]; omega
            have HNX2 : Hid (dv (a.data.toList ++ r.data.toList.take (m + 1)) = M * 10 + dg) := Lib.hid (by rw [HNX.out, ← HXE.out]; omega)
            have HO10 : Hid (∀ w', Calls Tryz.prog 27 #[.int .u64 10] w' fun e w2 => (∃ r, e = .returned r ∧ RN w2 r 10) ∧ Gr w' w2) := Lib.hid (fun w' => r_ofU 10 (by decide) w')
            have HODG : Hid (∀ w' (z : Int), z = (dg : Int) → Calls Tryz.prog 27 #[.int .u64 z] w' fun e w2 => (∃ r, e = .returned r ∧ RN w2 r dg) ∧ Gr w' w2) := Lib.hid (fun w' z hz => by rw [hz]; exact r_ofU dg (by rw [B_eq]; omega) w')
            have HQX : Hid (∀ (i : Nat) (hi : i < t.size), i = j + 1 + m → IntKind.u64.wrap (IntKind.u8.wrap (((t[i]'hi).toNat : Int) - 48)) = (dg : Int)) := Lib.hid (fun i hi e => by subst e; rw [hq1, hq2, hq3])
            have HMUL : Hid (∀ w' x, Gr wr w' → RN w' x 10 → Calls Tryz.prog 80 #[u9, x] w' fun e w2 => (∃ r, e = .returned r ∧ RN w2 r (M * 10)) ∧ Gr w' w2) := Lib.hid (fun w' x hg hx => r_mul (HV.out.gr hg) hx (k := 30) hNb (by decide) (by decide))
            have HADD : Hid (∀ w' x z, RN w' x (M * 10) → RN w' z dg → Calls Tryz.prog 79 #[x, z] w' fun e w2 => (∃ r, e = .returned r ∧ RN w2 r (M * 10 + dg)) ∧ Gr w' w2) := Lib.hid (fun w' x z hx hz => r_add hx hz (k := 31) (b_mul hNb (show 10 < Dg.D ^ 1 by decide) rfl) (Nat.lt_of_lt_of_le (show dg < 10 by omega) (show 10 ≤ Dg.D ^ 31 by decide)) (by decide))
            clear hdd1 hdd2 hdd hNb hy hdg hq1 hq2 hq3
            go_wp2_with fail
            go_region_held3 (fun w' => Gr wr w' ∧ True)
              (first | exact ⟨Gr.drew (Gr.rf _) 1, trivial⟩ | exact ⟨hs6, trivial⟩ | exact ⟨hs5, trivial⟩ | exact ⟨hs4, trivial⟩ | exact ⟨hs3, trivial⟩ | fail)
              (first
                | (go_at_call 27; go_split_ands; first | ((with_reducible refine (HO10.out _).mono ?_); rintro ev w3 ⟨⟨r3, rfl, hr3⟩, hg3⟩; have hs3 : Gr wr w3 := Gr.tr (by assumption) hg3) | (refine (HODG.out _ _ (HQX.out _ _ (by omega))).mono ?_; rintro ev w4 ⟨⟨r4, rfl, hr4⟩, hg4⟩; have hs4 : Gr wr w4 := Gr.tr (by assumption) hg4))
                | (go_at_call 80; go_split_ands; refine (HMUL.out _ _ (by assumption) (by first | exact hr3 | exact hr3.gr hg4)).mono ?_; rintro ev w5 ⟨⟨r5, rfl, hr5⟩, hg5⟩; have hs5 : Gr wr w5 := Gr.tr (by assumption) hg5)
                | (go_at_call 79; go_split_ands; refine (HADD.out _ _ _ (by first | exact hr5 | exact hr5.gr hg4) (by first | exact hr4 | exact hr4.gr hg5 | exact hr4.gr (hg3.tr hg5))).mono ?_; rintro ev w6 ⟨⟨r6, rfl, hr6⟩, hg6⟩; have hs6 : Gr wr w6 := Gr.tr (by assumption) hg6))
            all_goals
              go_wp2
              go_roundg (r.size + 1 - (m + 1))
              case measure => have := HGG2.out; omega
              case rel => exact ⟨m + 1, rfl, by omega, by first | rfl | go_num | (congr 1; omega), Lib.hid (by rw [HNX2.out]; exact hr6), HDN, Lib.hid (HGW.out.tr hs6)⟩
        · have hme : m = r.size := by omega
          subst hme
          have c1 : decide (((j + 1 + r.size : Nat) : Int) < (t.size : Int)) = false := decide_eq_false (by have := HRS.out.2; omega)
          have c1n : decide (j + 1 + r.size < t.size) = false := decide_eq_false (by have := HRS.out.2; omega)
          have htk : r.data.toList.take r.size = r.data.toList := List.take_of_length_le (by rw [HRS.out.1]; exact Nat.le_refl _)
          rw [htk] at HV HDG
          clear htk
          obtain ⟨va, vc, rfl⟩ := rn_len HV.out
          generalize (Dg.digs (dv (a.data.toList ++ r.data.toList))).length = vl at *
          have HGWW := Lib.hid (HG2.out.tr HGW.out)
          have HBW := Lib.hid (HGW.out.heap HB2.out)
          have HOU : Hid (∀ w', Calls Tryz.prog 27 #[.int .u64 10] w' fun e w2 => (∃ r, e = .returned r ∧ RN w2 r 10) ∧ Gr w' w2) := Lib.hid (fun w' => r_ofU 10 (by decide) w')
          go_wp2_with (go_at_call 27; (with_reducible refine (HOU.out _).mono ?_); rintro ev w5 ⟨⟨r5, rfl, hr5⟩, hg5⟩; have HR5 := Lib.hid hr5; have HG5 := Lib.hid hg5; clear hr5 hg5)
          have hpw := r_pow (w := w5) HR5.out r.size (k := 4) (by decide) (Nat.lt_of_lt_of_le (Nat.pow_lt_pow_right (by decide) (show r.size + 1 < 22 by have := HR.out; omega)) (by decide)) (by decide) (by decide) (by omega)
          have HPW := Lib.hid hpw
          clear hpw
          go_wp2_with fail
          refine HPW.out.mono ?_
          rintro ev w6 ⟨⟨r6, rfl, hr6⟩, hg6⟩
          have HR6 := Lib.hid hr6
          obtain ⟨a6, l6, c6, rfl⟩ : ∃ x l c, r6 = .slice x l c := by
            obtain ⟨x, c, h⟩ := rn_len hr6
            exact ⟨x, _, c, h⟩
          have HG6 := Lib.hid (HG5.out.tr hg6)
          have HB6 := Lib.hid (HG6.out.heap HBW.out)
          clear hr6 hg6
          have y0 := heap_cell HB6.out 0
          have y1 := heap_cell HB6.out 1
          have y2 := heap_cell HB6.out 2
          have g0 := heap_frz HB6.out 0
          have g1 := heap_frz HB6.out 1
          have g2 := heap_frz HB6.out 2
          have HE := Lib.hid (three_set w6 w.heap.size (.bool false) (.slice va vl vc) (.slice a6 l6 c6) _ _ _ y0 y1 y2 (fun n h => by cases h) (fun n h => by cases h) (fun n h => by cases h))
          go_wp2
          (try simp only [Exit.inBlock, Exit.then])
          refine bodyPost_ret (ret_getdec _ _ _ _ _ HE.out.1 _ rfl rfl rfl) rfl ?_
          exact ⟨⟨_, _, rfl, show RN _ _ _ from HE.out.2.1 _ _ (HV.out.gr HG6.out), show RN _ _ _ from HE.out.2.1 _ _ HR6.out⟩, HE.out.2.2 w (HGWW.out.tr HG6.out) (Nat.le_refl _)⟩
set_option maxRecDepth 100000 in
set_option maxHeartbeats 8000000 in
theorem rdget_whole_nz (s t a r : ByteArray) (hs : s.size ≤ 240) (hp : Parts s t true) (I : Nat) (hI : I ≤ t.size) (hex : t.extract 0 I = a) (hno : ∀ j (hj : j < t.size), j < I → (t[j]'hj).toNat ≠ 46) (HPT : Hid (I = t.size)) (HL : Hid (s.size ≤ 60)) (HN : Hid (NumT a)) (HV0 : Hid (dv a.data.toList = 0)) (w : World) :
    Calls Tryz.prog 17 #[.string s] w fun e w' => e = .returned (.tuple #[.agg #[.bool false, .slice none 0 0, .slice none 0 0], .int .i64 0, .bool false]) ∧ Gr w w' := by
  have HGN := Lib.hid (fun w => rgetN_calls a w)
  have z1 := size_parts hp
  have hts240 : t.size ≤ 240 := by omega
  obtain ⟨hpos, h45, e3⟩ : ∃ hpos : 0 < s.size, (s[0]'hpos).toNat = 45 ∧ s.extract 1 s.size = t := by
    rcases hp with ⟨_, h1, h2, h3⟩ | ⟨h1, _⟩
    · exact ⟨h1, h2, h3.symm⟩
    · cases h1
  have e2 : (((s[0]'hpos).toNat : Int) == 45) = true := beq_iff_eq.2 (by omega)
  have hp1 : (1 : Int) ≤ (s.size : Int) := by omega
  have e1 : s.toList.isEmpty = false := by rw [empty_iff]; exact decide_eq_false (fun e => by have := Lib.size_eq s; rw [e] at this; simp only [List.length_nil] at this; omega)
  have HNO := Lib.hid hno
  have HEX := Lib.hid hex
  have HZ := Lib.hid (And.intro hs z1)
  clear hp z1 hno hex h45
  have hbk := heap_alloc_new w (.cells #[.bool false, .slice none 0 0, .slice none 0 0] 29)
  have HBK := Lib.hid hbk
  have HG0 : Hid (Gr w (w.alloc (.cells #[.bool false, .slice none 0 0, .slice none 0 0] 29))) := Lib.hid ((Gr.rf w).alloc (Nat.le_refl _) _)
  clear hbk
  go_enter Tryz.func17, Tryz.ntmps17
  go_wp2_with fail
  go_quiet (fail)
  go_wp2_with fail
  have HG0 := Lib.hid (Gr.drew HG0.out nq)
  have HBK := Lib.hid ((Gr.drew (Gr.rf (w.alloc (.cells #[.bool false, .slice none 0 0, .slice none 0 0] 29))) nq).heap HBK.out)
  generalize (w.alloc (.cells #[.bool false, .slice none 0 0, .slice none 0 0] 29)).drewN nq = w0 at *
  go_loopg [7] (I + 1) (fun g k wr => ∃ j : Nat, g = I + 1 - j ∧ j ≤ I ∧ k = .int .i64 (j : Int) ∧ w0 = wr)
  case atStart => exact ⟨0, rfl, Nat.zero_le _, rfl, rfl⟩
  case round =>
    obtain ⟨j, hg, hji, rfl, rfl⟩ := hrel
    have HGG := Lib.hid hg
    clear hg
    by_cases hlt : j < I
    · have hjs : j < t.size := by omega
      have b1 : decide ((j : Int) < (t.size : Int)) = true := decide_eq_true (by omega)
      have b1n : decide (j < t.size) = true := decide_eq_true hjs
      have hx := HNO.out j hjs hlt
      have b2 : (((t[j]'hjs).toNat : Int) == 46) = false := beq_eq_false_iff_ne.2 (by omega)
      have b2n : ((t[j]'hjs).toNat == 46) = false := beq_eq_false_iff_ne.2 hx
      clear hx
      go_wp2
      go_roundg (I + 1 - (j + 1))
      case measure => have := HGG.out; omega
      case rel => exact ⟨j + 1, rfl, by omega, by first | rfl | go_num, rfl⟩
    · have hjI : j = I := by omega
      subst hjI
      clear hlt hji
      have hje := HPT.out
      have b1 : decide ((j : Int) < (t.size : Int)) = false := decide_eq_false (by omega)
      have b1n : decide (j < t.size) = false := decide_eq_false (by omega)
      have hpl : (t.size : Int) - (j : Int) - 1 = -1 := by omega
      have hmx : max (0 : Int) (-1) = 0 := by decide
      clear hje
      have b3 : decide (60 < (s.size : Int)) = false := decide_eq_false (by have := HL.out; omega)
      have b3n : decide (60 < s.size) = false := decide_eq_false (by have := HL.out; omega)
      have hex := HEX.out
      have hj0 : (j : Int) ≤ (t.size : Int) := by omega
      go_wp2_with fail
      refine (HGN.out _).mono ?_
      rintro ev w2 ⟨⟨hr1, _⟩, hg2⟩
      obtain ⟨v2, rfl, hv2⟩ := hr1 HN.out
      have HV2 := Lib.hid hv2
      have HG2 := Lib.hid (HG0.out.tr hg2)
      have HB2 := Lib.hid (hg2.heap HBK.out)
      clear hr1 hg2 hv2 hex
      obtain ⟨va, vc, rfl⟩ := rn_len HV2.out
      have hvl0 : (Dg.digs (dv a.data.toList)).length = 0 := by have := digs_len0 (dv a.data.toList); have := HV0.out; omega
      generalize (Dg.digs (dv a.data.toList)).length = vl at *
      have hj1 : decide ((j : Int) + 1 < (t.size : Int)) = false := decide_eq_false (by omega)
      have hw1 : IntKind.i64.wrap ((j : Int) + 1) = (j : Int) + 1 := by rw [IntKind.wrap_i64]; have := HZ.out; omega
      have hl0 : ((vl : Int) == 0) = true := beq_iff_eq.2 (by omega)
      have hl0n : (vl == 0) = true := beq_iff_eq.2 hvl0
      clear hvl0
      go_wp2_with fail
      go_loopg [9, 11] 1 (fun g n i wr => g = 1 ∧ n = .slice va vl vc ∧ i = .int .i64 ((j : Int) + 1) ∧ w2 = wr)
      case atStart => exact ⟨rfl, rfl, rfl, rfl⟩
      case round =>
        obtain ⟨rfl, rfl, rfl, rfl⟩ := hrel
        have y0 := heap_cell HB2.out 0
        have y1 := heap_cell HB2.out 1
        have y2 := heap_cell HB2.out 2
        have g0 := heap_frz HB2.out 0
        have g1 := heap_frz HB2.out 1
        have g2 := heap_frz HB2.out 2
        have HE := Lib.hid (three_set w2 w.heap.size (.bool false) (.slice none 0 0) (.slice none 0 0) _ _ _ y0 y1 y2 (fun n h => by cases h) (fun n h => by cases h) (fun n h => by cases h))
        go_wp2
        (try simp only [Exit.inBlock, Exit.then])
        refine bodyPost_ret (ret_getdec _ _ _ _ _ HE.out.1 _ rfl rfl rfl) rfl ?_
        exact ⟨rfl, HE.out.2.2 w HG2.out (Nat.le_refl _)⟩
set_option maxRecDepth 100000 in
set_option maxHeartbeats 8000000 in
theorem rdget_point_nz (s t a r : ByteArray) (hs : s.size ≤ 240) (hp : Parts s t true) (I : Nat) (hI : I ≤ t.size) (hex : t.extract 0 I = a) (hno : ∀ j (hj : j < t.size), j < I → (t[j]'hj).toNat ≠ 46) (HPT : Hid (∃ hI : I < t.size, (t[I]'hI).toNat = 46 ∧ t.data.toList.drop (I + 1) = r.data.toList ∧ I + 1 + r.size = t.size)) (HL : Hid (s.size ≤ 60)) (HR : Hid (1 ≤ r.size ∧ r.size ≤ 20)) (HN : Hid (NumT a)) (HD : Hid (Dig r.data.toList)) (HV0 : Hid (dv (a.data.toList ++ r.data.toList) = 0)) (w : World) :
    Calls Tryz.prog 17 #[.string s] w fun e w' => e = .returned (.tuple #[.agg #[.bool false, .slice none 0 0, .slice none 0 0], .int .i64 0, .bool false]) ∧ Gr w w' := by
  have HGN := Lib.hid (fun w => rgetN_calls a w)
  have HAZ : Hid (a.size ≤ 240) := Lib.hid (by rw [← hex, ByteArray.size_extract]; have := size_parts hp; omega)
  have z1 := size_parts hp
  have hts240 : t.size ≤ 240 := by omega
  obtain ⟨hpos, h45, e3⟩ : ∃ hpos : 0 < s.size, (s[0]'hpos).toNat = 45 ∧ s.extract 1 s.size = t := by
    rcases hp with ⟨_, h1, h2, h3⟩ | ⟨h1, _⟩
    · exact ⟨h1, h2, h3.symm⟩
    · cases h1
  have e2 : (((s[0]'hpos).toNat : Int) == 45) = true := beq_iff_eq.2 (by omega)
  have hp1 : (1 : Int) ≤ (s.size : Int) := by omega
  have e1 : s.toList.isEmpty = false := by rw [empty_iff]; exact decide_eq_false (fun e => by have := Lib.size_eq s; rw [e] at this; simp only [List.length_nil] at this; omega)
  have HNO := Lib.hid hno
  have HEX := Lib.hid hex
  have HZ := Lib.hid (And.intro hs z1)
  clear hp z1 hno hex h45
  have hbk := heap_alloc_new w (.cells #[.bool false, .slice none 0 0, .slice none 0 0] 29)
  have HBK := Lib.hid hbk
  have HG0 : Hid (Gr w (w.alloc (.cells #[.bool false, .slice none 0 0, .slice none 0 0] 29))) := Lib.hid ((Gr.rf w).alloc (Nat.le_refl _) _)
  clear hbk
  go_enter Tryz.func17, Tryz.ntmps17
  go_wp2_with fail
  go_quiet (fail)
  go_wp2_with fail
  have HG0 := Lib.hid (Gr.drew HG0.out nq)
  have HBK := Lib.hid ((Gr.drew (Gr.rf (w.alloc (.cells #[.bool false, .slice none 0 0, .slice none 0 0] 29))) nq).heap HBK.out)
  generalize (w.alloc (.cells #[.bool false, .slice none 0 0, .slice none 0 0] 29)).drewN nq = w0 at *
  go_loopg [7] (I + 1) (fun g k wr => ∃ j : Nat, g = I + 1 - j ∧ j ≤ I ∧ k = .int .i64 (j : Int) ∧ w0 = wr)
  case atStart => exact ⟨0, rfl, Nat.zero_le _, rfl, rfl⟩
  case round =>
    obtain ⟨j, hg, hji, rfl, rfl⟩ := hrel
    have HGG := Lib.hid hg
    clear hg
    by_cases hlt : j < I
    · have hjs : j < t.size := by omega
      have b1 : decide ((j : Int) < (t.size : Int)) = true := decide_eq_true (by omega)
      have b1n : decide (j < t.size) = true := decide_eq_true hjs
      have hx := HNO.out j hjs hlt
      have b2 : (((t[j]'hjs).toNat : Int) == 46) = false := beq_eq_false_iff_ne.2 (by omega)
      have b2n : ((t[j]'hjs).toNat == 46) = false := beq_eq_false_iff_ne.2 hx
      clear hx
      go_wp2
      go_roundg (I + 1 - (j + 1))
      case measure => have := HGG.out; omega
      case rel => exact ⟨j + 1, rfl, by omega, by first | rfl | go_num, rfl⟩
    · have hjI : j = I := by omega
      subst hjI
      clear hlt hji
      obtain ⟨hjs, h46, hrl, hsz⟩ := HPT.out
      have b1 : decide ((j : Int) < (t.size : Int)) = true := decide_eq_true (by omega)
      have b1n : decide (j < t.size) = true := decide_eq_true hjs
      have b2 : (((t[j]'hjs).toNat : Int) == 46) = true := beq_iff_eq.2 (by omega)
      have b2n : ((t[j]'hjs).toNat == 46) = true := beq_iff_eq.2 h46
      have hpl : (t.size : Int) - (j : Int) - 1 = (r.size : Int) := by omega
      have hmx : max (0 : Int) (r.size : Int) = (r.size : Int) := by omega
      clear h46 hrl hsz
      have b3 : decide (60 < (s.size : Int)) = false := decide_eq_false (by have := HL.out; omega)
      have b3n : decide (60 < s.size) = false := decide_eq_false (by have := HL.out; omega)
      have b4 : decide ((r.size : Int) < 1) = false := decide_eq_false (by have := HR.out; omega)
      have b4n : decide (r.size < 1) = false := decide_eq_false (by have := HR.out; omega)
      have b5 : decide (20 < (r.size : Int)) = false := decide_eq_false (by have := HR.out; omega)
      have b5n : decide (20 < r.size) = false := decide_eq_false (by have := HR.out; omega)
      have hex := HEX.out
      have hj0 : (j : Int) ≤ (t.size : Int) := by omega
      go_wp2_with fail
      refine (HGN.out _).mono ?_
      rintro ev w2 ⟨⟨hr1, _⟩, hg2⟩
      obtain ⟨v2, rfl, hv2⟩ := hr1 HN.out
      have HV2 := Lib.hid hv2
      have HG2 := Lib.hid (HG0.out.tr hg2)
      have HB2 := Lib.hid (hg2.heap HBK.out)
      clear hr1 hg2 hv2 hex
      have hw1 : IntKind.i64.wrap ((j : Int) + 1) = (j : Int) + 1 := by rw [IntKind.wrap_i64]; have := HZ.out; omega
      have HRL : Hid (∀ m (hm : m < r.data.toList.length), ∃ h : j + 1 + m < t.size, t[j + 1 + m]'h = r.data.toList[m]'hm) := Lib.hid (fun m hm => by
        obtain ⟨_, _, hrl, hsz⟩ := HPT.out
        have hms : j + 1 + m < t.size := by rw [← Lib.size_eq] at hm; omega
        refine ⟨hms, ?_⟩
        have hl2 : j + 1 + m < t.data.toList.length := by rw [← Lib.size_eq]; exact hms
        rw [← at_list t _ hms hl2]
        have := List.getElem_drop (xs := t.data.toList) (i := j + 1) (j := m) (h := by rw [hrl]; exact hm)
        rw [← this]
        congr 1)
      have hrs : r.data.toList.length = r.size := (Lib.size_eq r).symm
      have hts : j + 1 + r.size = t.size := by obtain ⟨_, _, _, hsz⟩ := HPT.out; exact hsz
      have HRS := Lib.hid (And.intro hrs hts)
      clear hrs hts
      go_wp2_with fail
      go_loopg [9, 11] (r.size + 1) (fun g n i wr => ∃ m : Nat, g = r.size + 1 - m ∧ m ≤ r.size ∧ i = .int .i64 ((j + 1 + m : Nat) : Int) ∧ Hid (RN wr n (dv (a.data.toList ++ r.data.toList.take m))) ∧ Hid (Dig (r.data.toList.take m)) ∧ Hid (Gr w2 wr))
      case atStart => exact ⟨0, rfl, Nat.zero_le _, by first | rfl | go_num, Lib.hid (by rw [List.take_zero, List.append_nil]; exact HV2.out), Lib.hid (by rw [List.take_zero]; intro c hc; cases hc), Lib.hid (Gr.rf _)⟩
      case round =>
        obtain ⟨m, hg, hm, rfl, HV, HDG, HGW⟩ := hrel
        have HGG2 := Lib.hid hg
        clear hg
        by_cases hlt : m < r.size
        · obtain ⟨hx, hxe⟩ := HRL.out m (by rw [HRS.out.1]; exact hlt)
          have c1 : decide (((j + 1 + m : Nat) : Int) < (t.size : Int)) = true := decide_eq_true (by omega)
          have c1n : decide (j + 1 + m < t.size) = true := decide_eq_true hx
          have hc0 : ((t[j + 1 + m]'hx).toNat : Int) < 256 := by have := (t[j + 1 + m]'hx).toNat_lt; omega
          have HXE := Lib.hid hxe
          clear hxe
          have hdd := HD.out (t[j + 1 + m]'hx) (by rw [HXE.out]; exact List.getElem_mem _)
          have hdd1 := hdd.1
          have hdd2 := hdd.2
          case' _ =>
            have c2 : decide (((t[j + 1 + m]'hx).toNat : Int) < 48) = false := decide_eq_false (by omega)
            have c2n : decide ((t[j + 1 + m]'hx).toNat < 48) = false := decide_eq_false (by omega)
            have c3 : decide (57 < ((t[j + 1 + m]'hx).toNat : Int)) = false := decide_eq_false (by omega)
            have c3n : decide (57 < (t[j + 1 + m]'hx).toNat) = false := decide_eq_false (by omega)
            have HNX := Lib.hid (dv_take_next a.data.toList r.data.toList m (by rw [HRS.out.1]; exact hlt))
            have HDN := Lib.hid (dig_take_next HDG.out (by rw [HRS.out.1]; exact hlt) (by rw [← HXE.out]; exact hdd1) (by rw [← HXE.out]; exact hdd2))
            have hNb : dv (a.data.toList ++ r.data.toList.take m) < Dg.D ^ 30 := dv_D _ (fun c hc => (List.mem_append.1 hc).elim (HN.out.2.2.2 c) (HDG.out c)) 30 (by rw [List.length_append, List.length_take, HRS.out.1, ← Lib.size_eq]; have := HAZ.out; have := HR.out; omega)
            generalize dv (a.data.toList ++ r.data.toList.take m) = M at *
            obtain ⟨y, hy⟩ : ∃ y : Nat, (t[j + 1 + m]'hx).toNat = y := ⟨_, rfl⟩
            obtain ⟨dg, hdg⟩ : ∃ dg : Nat, y = dg + 48 := ⟨y - 48, by omega⟩
            have hq1 : ((t[j + 1 + m]'hx).toNat : Int) - 48 = (dg : Int) := by omega
            have hq2 : IntKind.u8.wrap (dg : Int) = (dg : Int) := by rw [IntKind.wrap_u8]; omega
            have hq3 : IntKind.u64.wrap (dg : Int) = (dg : Int) := by rw [IntKind.wrap_u64]; omega
            have HNX2 : Hid (dv (a.data.toList ++ r.data.toList.take (m + 1)) = M * 10 + dg) := Lib.hid (by rw [HNX.out, ← HXE.out]; omega)
            have HO10 : Hid (∀ w', Calls Tryz.prog 27 #[.int .u64 10] w' fun e w2 => (∃ r, e = .returned r ∧ RN w2 r 10) ∧ Gr w' w2) := Lib.hid (fun w' => r_ofU 10 (by decide) w')
            have HODG : Hid (∀ w' (z : Int), z = (dg : Int) → Calls Tryz.prog 27 #[.int .u64 z] w' fun e w2 => (∃ r, e = .returned r ∧ RN w2 r dg) ∧ Gr w' w2) := Lib.hid (fun w' z hz => by rw [hz]; exact r_ofU dg (by rw [B_eq]; omega) w')
            have HQX : Hid (∀ (i : Nat) (hi : i < t.size), i = j + 1 + m → IntKind.u64.wrap (IntKind.u8.wrap (((t[i]'hi).toNat : Int) - 48)) = (dg : Int)) := Lib.hid (fun i hi e => by subst e; rw [hq1, hq2, hq3])
            have HMUL : Hid (∀ w' x, Gr wr w' → RN w' x 10 → Calls Tryz.prog 80 #[u9, x] w' fun e w2 => (∃ r, e = .returned r ∧ RN w2 r (M * 10)) ∧ Gr w' w2) := Lib.hid (fun w' x hg hx => r_mul (HV.out.gr hg) hx (k := 30) hNb (by decide) (by decide))
            have HADD : Hid (∀ w' x z, RN w' x (M * 10) → RN w' z dg → Calls Tryz.prog 79 #[x, z] w' fun e w2 => (∃ r, e = .returned r ∧ RN w2 r (M * 10 + dg)) ∧ Gr w' w2) := Lib.hid (fun w' x z hx hz => r_add hx hz (k := 31) (b_mul hNb (show 10 < Dg.D ^ 1 by decide) rfl) (Nat.lt_of_lt_of_le (show dg < 10 by omega) (show 10 ≤ Dg.D ^ 31 by decide)) (by decide))
            clear hdd1 hdd2 hdd hNb hy hdg hq1 hq2 hq3
            go_wp2_with fail
            go_region_held3 (fun w' => Gr wr w' ∧ True)
              (first | exact ⟨Gr.drew (Gr.rf _) 1, trivial⟩ | exact ⟨hs6, trivial⟩ | exact ⟨hs5, trivial⟩ | exact ⟨hs4, trivial⟩ | exact ⟨hs3, trivial⟩ | fail)
              (first
                | (go_at_call 27; go_split_ands; first | ((with_reducible refine (HO10.out _).mono ?_); rintro ev w3 ⟨⟨r3, rfl, hr3⟩, hg3⟩; have hs3 : Gr wr w3 := Gr.tr (by assumption) hg3) | (refine (HODG.out _ _ (HQX.out _ _ (by omega))).mono ?_; rintro ev w4 ⟨⟨r4, rfl, hr4⟩, hg4⟩; have hs4 : Gr wr w4 := Gr.tr (by assumption) hg4))
                | (go_at_call 80; go_split_ands; refine (HMUL.out _ _ (by assumption) (by first | exact hr3 | exact hr3.gr hg4)).mono ?_; rintro ev w5 ⟨⟨r5, rfl, hr5⟩, hg5⟩; have hs5 : Gr wr w5 := Gr.tr (by assumption) hg5)
                | (go_at_call 79; go_split_ands; refine (HADD.out _ _ _ (by first | exact hr5 | exact hr5.gr hg4) (by first | exact hr4 | exact hr4.gr hg5 | exact hr4.gr (hg3.tr hg5))).mono ?_; rintro ev w6 ⟨⟨r6, rfl, hr6⟩, hg6⟩; have hs6 : Gr wr w6 := Gr.tr (by assumption) hg6))
            all_goals
              go_wp2
              go_roundg (r.size + 1 - (m + 1))
              case measure => have := HGG2.out; omega
              case rel => exact ⟨m + 1, rfl, by omega, by first | rfl | go_num | (congr 1; omega), Lib.hid (by rw [HNX2.out]; exact hr6), HDN, Lib.hid (HGW.out.tr hs6)⟩
        · have hme : m = r.size := by omega
          subst hme
          have c1 : decide (((j + 1 + r.size : Nat) : Int) < (t.size : Int)) = false := decide_eq_false (by have := HRS.out.2; omega)
          have c1n : decide (j + 1 + r.size < t.size) = false := decide_eq_false (by have := HRS.out.2; omega)
          have htk : r.data.toList.take r.size = r.data.toList := List.take_of_length_le (by rw [HRS.out.1]; exact Nat.le_refl _)
          rw [htk] at HV HDG
          clear htk
          obtain ⟨va, vc, rfl⟩ := rn_len HV.out
          have hvl0 : (Dg.digs (dv (a.data.toList ++ r.data.toList))).length = 0 := by have := digs_len0 (dv (a.data.toList ++ r.data.toList)); have := HV0.out; omega
          generalize (Dg.digs (dv (a.data.toList ++ r.data.toList))).length = vl at *
          have hl0 : ((vl : Int) == 0) = true := beq_iff_eq.2 (by omega)
          have hl0n : (vl == 0) = true := beq_iff_eq.2 hvl0
          clear hvl0
          have y0 := heap_cell (HGW.out.heap HB2.out) 0
          have y1 := heap_cell (HGW.out.heap HB2.out) 1
          have y2 := heap_cell (HGW.out.heap HB2.out) 2
          have g0 := heap_frz (HGW.out.heap HB2.out) 0
          have g1 := heap_frz (HGW.out.heap HB2.out) 1
          have g2 := heap_frz (HGW.out.heap HB2.out) 2
          have HE := Lib.hid (three_set wr w.heap.size (.bool false) (.slice none 0 0) (.slice none 0 0) _ _ _ y0 y1 y2 (fun n h => by cases h) (fun n h => by cases h) (fun n h => by cases h))
          go_wp2
          (try simp only [Exit.inBlock, Exit.then])
          refine bodyPost_ret (ret_getdec _ _ _ _ _ HE.out.1 _ rfl rfl rfl) rfl ?_
          exact ⟨rfl, HE.out.2.2 w (HG2.out.tr HGW.out) (Nat.le_refl _)⟩
set_option maxRecDepth 100000 in
set_option maxHeartbeats 8000000 in
theorem rdget_whole_nq (s t a r : ByteArray) (hs : s.size ≤ 240) (hp : Parts s t true) (I : Nat) (hI : I ≤ t.size) (hex : t.extract 0 I = a) (hno : ∀ j (hj : j < t.size), j < I → (t[j]'hj).toNat ≠ 46) (HPT : Hid (I = t.size)) (HL : Hid (s.size ≤ 60)) (HN : Hid (NumT a)) (HV0 : Hid (dv a.data.toList ≠ 0)) (w : World) :
    Calls Tryz.prog 17 #[.string s] w fun e w' => (∃ va vb, e = .returned (.tuple #[.agg #[.bool true, va, vb], .int .i64 0, .bool true]) ∧ RN w' va (dv a.data.toList) ∧ RN w' vb (10 ^ 0)) ∧ Gr w w' := by
  have HGN := Lib.hid (fun w => rgetN_calls a w)
  have z1 := size_parts hp
  have hts240 : t.size ≤ 240 := by omega
  obtain ⟨hpos, h45, e3⟩ : ∃ hpos : 0 < s.size, (s[0]'hpos).toNat = 45 ∧ s.extract 1 s.size = t := by
    rcases hp with ⟨_, h1, h2, h3⟩ | ⟨h1, _⟩
    · exact ⟨h1, h2, h3.symm⟩
    · cases h1
  have e2 : (((s[0]'hpos).toNat : Int) == 45) = true := beq_iff_eq.2 (by omega)
  have hp1 : (1 : Int) ≤ (s.size : Int) := by omega
  have e1 : s.toList.isEmpty = false := by rw [empty_iff]; exact decide_eq_false (fun e => by have := Lib.size_eq s; rw [e] at this; simp only [List.length_nil] at this; omega)
  have HNO := Lib.hid hno
  have HEX := Lib.hid hex
  have HZ := Lib.hid (And.intro hs z1)
  clear hp z1 hno hex h45
  have hbk := heap_alloc_new w (.cells #[.bool false, .slice none 0 0, .slice none 0 0] 29)
  have HBK := Lib.hid hbk
  have HG0 : Hid (Gr w (w.alloc (.cells #[.bool false, .slice none 0 0, .slice none 0 0] 29))) := Lib.hid ((Gr.rf w).alloc (Nat.le_refl _) _)
  clear hbk
  go_enter Tryz.func17, Tryz.ntmps17
  go_wp2_with fail
  go_quiet (fail)
  go_wp2_with fail
  have HG0 := Lib.hid (Gr.drew HG0.out nq)
  have HBK := Lib.hid ((Gr.drew (Gr.rf (w.alloc (.cells #[.bool false, .slice none 0 0, .slice none 0 0] 29))) nq).heap HBK.out)
  generalize (w.alloc (.cells #[.bool false, .slice none 0 0, .slice none 0 0] 29)).drewN nq = w0 at *
  go_loopg [7] (I + 1) (fun g k wr => ∃ j : Nat, g = I + 1 - j ∧ j ≤ I ∧ k = .int .i64 (j : Int) ∧ w0 = wr)
  case atStart => exact ⟨0, rfl, Nat.zero_le _, rfl, rfl⟩
  case round =>
    obtain ⟨j, hg, hji, rfl, rfl⟩ := hrel
    have HGG := Lib.hid hg
    clear hg
    by_cases hlt : j < I
    · have hjs : j < t.size := by omega
      have b1 : decide ((j : Int) < (t.size : Int)) = true := decide_eq_true (by omega)
      have b1n : decide (j < t.size) = true := decide_eq_true hjs
      have hx := HNO.out j hjs hlt
      have b2 : (((t[j]'hjs).toNat : Int) == 46) = false := beq_eq_false_iff_ne.2 (by omega)
      have b2n : ((t[j]'hjs).toNat == 46) = false := beq_eq_false_iff_ne.2 hx
      clear hx
      go_wp2
      go_roundg (I + 1 - (j + 1))
      case measure => have := HGG.out; omega
      case rel => exact ⟨j + 1, rfl, by omega, by first | rfl | go_num, rfl⟩
    · have hjI : j = I := by omega
      subst hjI
      clear hlt hji
      have hje := HPT.out
      have b1 : decide ((j : Int) < (t.size : Int)) = false := decide_eq_false (by omega)
      have b1n : decide (j < t.size) = false := decide_eq_false (by omega)
      have hpl : (t.size : Int) - (j : Int) - 1 = -1 := by omega
      have hmx : max (0 : Int) (-1) = 0 := by decide
      clear hje
      have b3 : decide (60 < (s.size : Int)) = false := decide_eq_false (by have := HL.out; omega)
      have b3n : decide (60 < s.size) = false := decide_eq_false (by have := HL.out; omega)
      have hex := HEX.out
      have hj0 : (j : Int) ≤ (t.size : Int) := by omega
      go_wp2_with fail
      refine (HGN.out _).mono ?_
      rintro ev w2 ⟨⟨hr1, _⟩, hg2⟩
      obtain ⟨v2, rfl, hv2⟩ := hr1 HN.out
      have HV2 := Lib.hid hv2
      have HG2 := Lib.hid (HG0.out.tr hg2)
      have HB2 := Lib.hid (hg2.heap HBK.out)
      clear hr1 hg2 hv2 hex
      obtain ⟨va, vc, rfl⟩ := rn_len HV2.out
      have hvl0 : ¬ (Dg.digs (dv a.data.toList)).length = 0 := by have := digs_len0 (dv a.data.toList); have := HV0.out; omega
      generalize (Dg.digs (dv a.data.toList)).length = vl at *
      have hj1 : decide ((j : Int) + 1 < (t.size : Int)) = false := decide_eq_false (by omega)
      have hw1 : IntKind.i64.wrap ((j : Int) + 1) = (j : Int) + 1 := by rw [IntKind.wrap_i64]; have := HZ.out; omega
      have hl0 : ((vl : Int) == 0) = false := beq_eq_false_iff_ne.2 (by omega)
      have hl0n : (vl == 0) = false := beq_eq_false_iff_ne.2 hvl0
      clear hvl0
      go_wp2_with fail
      go_loopg [9, 11] 1 (fun g n i wr => g = 1 ∧ n = .slice va vl vc ∧ i = .int .i64 ((j : Int) + 1) ∧ w2 = wr)
      case atStart => exact ⟨rfl, rfl, rfl, rfl⟩
      case round =>
        obtain ⟨rfl, rfl, rfl, rfl⟩ := hrel
        have HOU : Hid (∀ w', Calls Tryz.prog 27 #[.int .u64 10] w' fun e w2 => (∃ r, e = .returned r ∧ RN w2 r 10) ∧ Gr w' w2) := Lib.hid (fun w' => r_ofU 10 (by decide) w')
        go_wp2_with (go_at_call 27; (with_reducible refine (HOU.out _).mono ?_); rintro ev w5 ⟨⟨r5, rfl, hr5⟩, hg5⟩; have HR5 := Lib.hid hr5; have HG5 := Lib.hid hg5; clear hr5 hg5)
        have hpw := r_pow (w := w5) HR5.out 0 (k := 4) (by decide) (by decide) (by decide) (by decide) (by decide)
        rw [show ((0 : Nat) : Int) = 0 from rfl] at hpw
        have HPW := Lib.hid hpw
        clear hpw
        go_wp2_with fail
        refine HPW.out.mono ?_
        rintro ev w6 ⟨⟨r6, rfl, hr6⟩, hg6⟩
        have HR6 := Lib.hid hr6
        obtain ⟨a6, l6, c6, rfl⟩ : ∃ x l c, r6 = .slice x l c := by
          obtain ⟨x, c, h⟩ := rn_len hr6
          exact ⟨x, _, c, h⟩
        have HG6 := Lib.hid (HG5.out.tr hg6)
        have HB6 := Lib.hid (HG6.out.heap HB2.out)
        clear hr6 hg6
        have y0 := heap_cell HB6.out 0
        have y1 := heap_cell HB6.out 1
        have y2 := heap_cell HB6.out 2
        have g0 := heap_frz HB6.out 0
        have g1 := heap_frz HB6.out 1
        have g2 := heap_frz HB6.out 2
        have HE := Lib.hid (three_set w6 w.heap.size (.bool true) (.slice va vl vc) (.slice a6 l6 c6) _ _ _ y0 y1 y2 (fun n h => by cases h) (fun n h => by cases h) (fun n h => by cases h))
        go_wp2
        (try simp only [Exit.inBlock, Exit.then])
        refine bodyPost_ret (ret_getdec _ _ _ _ _ HE.out.1 _ rfl rfl rfl) rfl ?_
        exact ⟨⟨_, _, rfl, show RN _ _ _ from HE.out.2.1 _ _ (HV2.out.gr HG6.out), show RN _ _ _ from HE.out.2.1 _ _ HR6.out⟩, HE.out.2.2 w (HG2.out.tr HG6.out) (Nat.le_refl _)⟩
set_option maxRecDepth 100000 in
set_option maxHeartbeats 8000000 in
theorem rdget_point_nq (s t a r : ByteArray) (hs : s.size ≤ 240) (hp : Parts s t true) (I : Nat) (hI : I ≤ t.size) (hex : t.extract 0 I = a) (hno : ∀ j (hj : j < t.size), j < I → (t[j]'hj).toNat ≠ 46) (HPT : Hid (∃ hI : I < t.size, (t[I]'hI).toNat = 46 ∧ t.data.toList.drop (I + 1) = r.data.toList ∧ I + 1 + r.size = t.size)) (HL : Hid (s.size ≤ 60)) (HR : Hid (1 ≤ r.size ∧ r.size ≤ 20)) (HN : Hid (NumT a)) (HD : Hid (Dig r.data.toList)) (HV0 : Hid (dv (a.data.toList ++ r.data.toList) ≠ 0)) (w : World) :
    Calls Tryz.prog 17 #[.string s] w fun e w' => (∃ va vb, e = .returned (.tuple #[.agg #[.bool true, va, vb], .int .i64 (r.size : Int), .bool true]) ∧ RN w' va (dv (a.data.toList ++ r.data.toList)) ∧ RN w' vb (10 ^ r.size)) ∧ Gr w w' := by
  have HGN := Lib.hid (fun w => rgetN_calls a w)
  have HAZ : Hid (a.size ≤ 240) := Lib.hid (by rw [← hex, ByteArray.size_extract]; have := size_parts hp; omega)
  have z1 := size_parts hp
  have hts240 : t.size ≤ 240 := by omega
  obtain ⟨hpos, h45, e3⟩ : ∃ hpos : 0 < s.size, (s[0]'hpos).toNat = 45 ∧ s.extract 1 s.size = t := by
    rcases hp with ⟨_, h1, h2, h3⟩ | ⟨h1, _⟩
    · exact ⟨h1, h2, h3.symm⟩
    · cases h1
  have e2 : (((s[0]'hpos).toNat : Int) == 45) = true := beq_iff_eq.2 (by omega)
  have hp1 : (1 : Int) ≤ (s.size : Int) := by omega
  have e1 : s.toList.isEmpty = false := by rw [empty_iff]; exact decide_eq_false (fun e => by have := Lib.size_eq s; rw [e] at this; simp only [List.length_nil] at this; omega)
  have HNO := Lib.hid hno
  have HEX := Lib.hid hex
  have HZ := Lib.hid (And.intro hs z1)
  clear hp z1 hno hex h45
  have hbk := heap_alloc_new w (.cells #[.bool false, .slice none 0 0, .slice none 0 0] 29)
  have HBK := Lib.hid hbk
  have HG0 : Hid (Gr w (w.alloc (.cells #[.bool false, .slice none 0 0, .slice none 0 0] 29))) := Lib.hid ((Gr.rf w).alloc (Nat.le_refl _) _)
  clear hbk
  go_enter Tryz.func17, Tryz.ntmps17
  go_wp2_with fail
  go_quiet (fail)
  go_wp2_with fail
  have HG0 := Lib.hid (Gr.drew HG0.out nq)
  have HBK := Lib.hid ((Gr.drew (Gr.rf (w.alloc (.cells #[.bool false, .slice none 0 0, .slice none 0 0] 29))) nq).heap HBK.out)
  generalize (w.alloc (.cells #[.bool false, .slice none 0 0, .slice none 0 0] 29)).drewN nq = w0 at *
  go_loopg [7] (I + 1) (fun g k wr => ∃ j : Nat, g = I + 1 - j ∧ j ≤ I ∧ k = .int .i64 (j : Int) ∧ w0 = wr)
  case atStart => exact ⟨0, rfl, Nat.zero_le _, rfl, rfl⟩
  case round =>
    obtain ⟨j, hg, hji, rfl, rfl⟩ := hrel
    have HGG := Lib.hid hg
    clear hg
    by_cases hlt : j < I
    · have hjs : j < t.size := by omega
      have b1 : decide ((j : Int) < (t.size : Int)) = true := decide_eq_true (by omega)
      have b1n : decide (j < t.size) = true := decide_eq_true hjs
      have hx := HNO.out j hjs hlt
      have b2 : (((t[j]'hjs).toNat : Int) == 46) = false := beq_eq_false_iff_ne.2 (by omega)
      have b2n : ((t[j]'hjs).toNat == 46) = false := beq_eq_false_iff_ne.2 hx
      clear hx
      go_wp2
      go_roundg (I + 1 - (j + 1))
      case measure => have := HGG.out; omega
      case rel => exact ⟨j + 1, rfl, by omega, by first | rfl | go_num, rfl⟩
    · have hjI : j = I := by omega
      subst hjI
      clear hlt hji
      obtain ⟨hjs, h46, hrl, hsz⟩ := HPT.out
      have b1 : decide ((j : Int) < (t.size : Int)) = true := decide_eq_true (by omega)
      have b1n : decide (j < t.size) = true := decide_eq_true hjs
      have b2 : (((t[j]'hjs).toNat : Int) == 46) = true := beq_iff_eq.2 (by omega)
      have b2n : ((t[j]'hjs).toNat == 46) = true := beq_iff_eq.2 h46
      have hpl : (t.size : Int) - (j : Int) - 1 = (r.size : Int) := by omega
      have hmx : max (0 : Int) (r.size : Int) = (r.size : Int) := by omega
      clear h46 hrl hsz
      have b3 : decide (60 < (s.size : Int)) = false := decide_eq_false (by have := HL.out; omega)
      have b3n : decide (60 < s.size) = false := decide_eq_false (by have := HL.out; omega)
      have b4 : decide ((r.size : Int) < 1) = false := decide_eq_false (by have := HR.out; omega)
      have b4n : decide (r.size < 1) = false := decide_eq_false (by have := HR.out; omega)
      have b5 : decide (20 < (r.size : Int)) = false := decide_eq_false (by have := HR.out; omega)
      have b5n : decide (20 < r.size) = false := decide_eq_false (by have := HR.out; omega)
      have hex := HEX.out
      have hj0 : (j : Int) ≤ (t.size : Int) := by omega
      go_wp2_with fail
      refine (HGN.out _).mono ?_
      rintro ev w2 ⟨⟨hr1, _⟩, hg2⟩
      obtain ⟨v2, rfl, hv2⟩ := hr1 HN.out
      have HV2 := Lib.hid hv2
      have HG2 := Lib.hid (HG0.out.tr hg2)
      have HB2 := Lib.hid (hg2.heap HBK.out)
      clear hr1 hg2 hv2 hex
      have hw1 : IntKind.i64.wrap ((j : Int) + 1) = (j : Int) + 1 := by rw [IntKind.wrap_i64]; have := HZ.out; omega
      have HRL : Hid (∀ m (hm : m < r.data.toList.length), ∃ h : j + 1 + m < t.size, t[j + 1 + m]'h = r.data.toList[m]'hm) := Lib.hid (fun m hm => by
        obtain ⟨_, _, hrl, hsz⟩ := HPT.out
        have hms : j + 1 + m < t.size := by rw [← Lib.size_eq] at hm; omega
        refine ⟨hms, ?_⟩
        have hl2 : j + 1 + m < t.data.toList.length := by rw [← Lib.size_eq]; exact hms
        rw [← at_list t _ hms hl2]
        have := List.getElem_drop (xs := t.data.toList) (i := j + 1) (j := m) (h := by rw [hrl]; exact hm)
        rw [← this]
        congr 1)
      have hrs : r.data.toList.length = r.size := (Lib.size_eq r).symm
      have hts : j + 1 + r.size = t.size := by obtain ⟨_, _, _, hsz⟩ := HPT.out; exact hsz
      have HRS := Lib.hid (And.intro hrs hts)
      clear hrs hts
      go_wp2_with fail
      go_loopg [9, 11] (r.size + 1) (fun g n i wr => ∃ m : Nat, g = r.size + 1 - m ∧ m ≤ r.size ∧ i = .int .i64 ((j + 1 + m : Nat) : Int) ∧ Hid (RN wr n (dv (a.data.toList ++ r.data.toList.take m))) ∧ Hid (Dig (r.data.toList.take m)) ∧ Hid (Gr w2 wr))
      case atStart => exact ⟨0, rfl, Nat.zero_le _, by first | rfl | go_num, Lib.hid (by rw [List.take_zero, List.append_nil]; exact HV2.out), Lib.hid (by rw [List.take_zero]; intro c hc; cases hc), Lib.hid (Gr.rf _)⟩
      case round =>
        obtain ⟨m, hg, hm, rfl, HV, HDG, HGW⟩ := hrel
        have HGG2 := Lib.hid hg
        clear hg
        by_cases hlt : m < r.size
        · obtain ⟨hx, hxe⟩ := HRL.out m (by rw [HRS.out.1]; exact hlt)
          have c1 : decide (((j + 1 + m : Nat) : Int) < (t.size : Int)) = true := decide_eq_true (by omega)
          have c1n : decide (j + 1 + m < t.size) = true := decide_eq_true hx
          have hc0 : ((t[j + 1 + m]'hx).toNat : Int) < 256 := by have := (t[j + 1 + m]'hx).toNat_lt; omega
          have HXE := Lib.hid hxe
          clear hxe
          have hdd := HD.out (t[j + 1 + m]'hx) (by rw [HXE.out]; exact List.getElem_mem _)
          have hdd1 := hdd.1
          have hdd2 := hdd.2
          case' _ =>
            have c2 : decide (((t[j + 1 + m]'hx).toNat : Int) < 48) = false := decide_eq_false (by omega)
            have c2n : decide ((t[j + 1 + m]'hx).toNat < 48) = false := decide_eq_false (by omega)
            have c3 : decide (57 < ((t[j + 1 + m]'hx).toNat : Int)) = false := decide_eq_false (by omega)
            have c3n : decide (57 < (t[j + 1 + m]'hx).toNat) = false := decide_eq_false (by omega)
            have HNX := Lib.hid (dv_take_next a.data.toList r.data.toList m (by rw [HRS.out.1]; exact hlt))
            have HDN := Lib.hid (dig_take_next HDG.out (by rw [HRS.out.1]; exact hlt) (by rw [← HXE.out]; exact hdd1) (by rw [← HXE.out]; exact hdd2))
            have hNb : dv (a.data.toList ++ r.data.toList.take m) < Dg.D ^ 30 := dv_D _ (fun c hc => (List.mem_append.1 hc).elim (HN.out.2.2.2 c) (HDG.out c)) 30 (by rw [List.length_append, List.length_take, HRS.out.1, ← Lib.size_eq]; have := HAZ.out; have := HR.out; omega)
            generalize dv (a.data.toList ++ r.data.toList.take m) = M at *
            obtain ⟨y, hy⟩ : ∃ y : Nat, (t[j + 1 + m]'hx).toNat = y := ⟨_, rfl⟩
            obtain ⟨dg, hdg⟩ : ∃ dg : Nat, y = dg + 48 := ⟨y - 48, by omega⟩
            have hq1 : ((t[j + 1 + m]'hx).toNat : Int) - 48 = (dg : Int) := by omega
            have hq2 : IntKind.u8.wrap (dg : Int) = (dg : Int) := by rw [IntKind.wrap_u8]; omega
            have hq3 : IntKind.u64.wrap (dg : Int) = (dg : Int) := by rw [IntKind.wrap_u64]; omega
            have HNX2 : Hid (dv (a.data.toList ++ r.data.toList.take (m + 1)) = M * 10 + dg) := Lib.hid (by rw [HNX.out, ← HXE.out]; omega)
            have HO10 : Hid (∀ w', Calls Tryz.prog 27 #[.int .u64 10] w' fun e w2 => (∃ r, e = .returned r ∧ RN w2 r 10) ∧ Gr w' w2) := Lib.hid (fun w' => r_ofU 10 (by decide) w')
            have HODG : Hid (∀ w' (z : Int), z = (dg : Int) → Calls Tryz.prog 27 #[.int .u64 z] w' fun e w2 => (∃ r, e = .returned r ∧ RN w2 r dg) ∧ Gr w' w2) := Lib.hid (fun w' z hz => by rw [hz]; exact r_ofU dg (by rw [B_eq]; omega) w')
            have HQX : Hid (∀ (i : Nat) (hi : i < t.size), i = j + 1 + m → IntKind.u64.wrap (IntKind.u8.wrap (((t[i]'hi).toNat : Int) - 48)) = (dg : Int)) := Lib.hid (fun i hi e => by subst e; rw [hq1, hq2, hq3])
            have HMUL : Hid (∀ w' x, Gr wr w' → RN w' x 10 → Calls Tryz.prog 80 #[u9, x] w' fun e w2 => (∃ r, e = .returned r ∧ RN w2 r (M * 10)) ∧ Gr w' w2) := Lib.hid (fun w' x hg hx => r_mul (HV.out.gr hg) hx (k := 30) hNb (by decide) (by decide))
            have HADD : Hid (∀ w' x z, RN w' x (M * 10) → RN w' z dg → Calls Tryz.prog 79 #[x, z] w' fun e w2 => (∃ r, e = .returned r ∧ RN w2 r (M * 10 + dg)) ∧ Gr w' w2) := Lib.hid (fun w' x z hx hz => r_add hx hz (k := 31) (b_mul hNb (show 10 < Dg.D ^ 1 by decide) rfl) (Nat.lt_of_lt_of_le (show dg < 10 by omega) (show 10 ≤ Dg.D ^ 31 by decide)) (by decide))
            clear hdd1 hdd2 hdd hNb hy hdg hq1 hq2 hq3
            go_wp2_with fail
            go_region_held3 (fun w' => Gr wr w' ∧ True)
              (first | exact ⟨Gr.drew (Gr.rf _) 1, trivial⟩ | exact ⟨hs6, trivial⟩ | exact ⟨hs5, trivial⟩ | exact ⟨hs4, trivial⟩ | exact ⟨hs3, trivial⟩ | fail)
              (first
                | (go_at_call 27; go_split_ands; first | ((with_reducible refine (HO10.out _).mono ?_); rintro ev w3 ⟨⟨r3, rfl, hr3⟩, hg3⟩; have hs3 : Gr wr w3 := Gr.tr (by assumption) hg3) | (refine (HODG.out _ _ (HQX.out _ _ (by omega))).mono ?_; rintro ev w4 ⟨⟨r4, rfl, hr4⟩, hg4⟩; have hs4 : Gr wr w4 := Gr.tr (by assumption) hg4))
                | (go_at_call 80; go_split_ands; refine (HMUL.out _ _ (by assumption) (by first | exact hr3 | exact hr3.gr hg4)).mono ?_; rintro ev w5 ⟨⟨r5, rfl, hr5⟩, hg5⟩; have hs5 : Gr wr w5 := Gr.tr (by assumption) hg5)
                | (go_at_call 79; go_split_ands; refine (HADD.out _ _ _ (by first | exact hr5 | exact hr5.gr hg4) (by first | exact hr4 | exact hr4.gr hg5 | exact hr4.gr (hg3.tr hg5))).mono ?_; rintro ev w6 ⟨⟨r6, rfl, hr6⟩, hg6⟩; have hs6 : Gr wr w6 := Gr.tr (by assumption) hg6))
            all_goals
              go_wp2
              go_roundg (r.size + 1 - (m + 1))
              case measure => have := HGG2.out; omega
              case rel => exact ⟨m + 1, rfl, by omega, by first | rfl | go_num | (congr 1; omega), Lib.hid (by rw [HNX2.out]; exact hr6), HDN, Lib.hid (HGW.out.tr hs6)⟩
        · have hme : m = r.size := by omega
          subst hme
          have c1 : decide (((j + 1 + r.size : Nat) : Int) < (t.size : Int)) = false := decide_eq_false (by have := HRS.out.2; omega)
          have c1n : decide (j + 1 + r.size < t.size) = false := decide_eq_false (by have := HRS.out.2; omega)
          have htk : r.data.toList.take r.size = r.data.toList := List.take_of_length_le (by rw [HRS.out.1]; exact Nat.le_refl _)
          rw [htk] at HV HDG
          clear htk
          obtain ⟨va, vc, rfl⟩ := rn_len HV.out
          have hvl0 : ¬ (Dg.digs (dv (a.data.toList ++ r.data.toList))).length = 0 := by have := digs_len0 (dv (a.data.toList ++ r.data.toList)); have := HV0.out; omega
          generalize (Dg.digs (dv (a.data.toList ++ r.data.toList))).length = vl at *
          have hl0 : ((vl : Int) == 0) = false := beq_eq_false_iff_ne.2 (by omega)
          have hl0n : (vl == 0) = false := beq_eq_false_iff_ne.2 hvl0
          clear hvl0
          have HGWW := Lib.hid (HG2.out.tr HGW.out)
          have HBW := Lib.hid (HGW.out.heap HB2.out)
          have HOU : Hid (∀ w', Calls Tryz.prog 27 #[.int .u64 10] w' fun e w2 => (∃ r, e = .returned r ∧ RN w2 r 10) ∧ Gr w' w2) := Lib.hid (fun w' => r_ofU 10 (by decide) w')
          go_wp2_with (go_at_call 27; (with_reducible refine (HOU.out _).mono ?_); rintro ev w5 ⟨⟨r5, rfl, hr5⟩, hg5⟩; have HR5 := Lib.hid hr5; have HG5 := Lib.hid hg5; clear hr5 hg5)
          have hpw := r_pow (w := w5) HR5.out r.size (k := 4) (by decide) (Nat.lt_of_lt_of_le (Nat.pow_lt_pow_right (by decide) (show r.size + 1 < 22 by have := HR.out; omega)) (by decide)) (by decide) (by decide) (by omega)
          have HPW := Lib.hid hpw
          clear hpw
          go_wp2_with fail
          refine HPW.out.mono ?_
          rintro ev w6 ⟨⟨r6, rfl, hr6⟩, hg6⟩
          have HR6 := Lib.hid hr6
          obtain ⟨a6, l6, c6, rfl⟩ : ∃ x l c, r6 = .slice x l c := by
            obtain ⟨x, c, h⟩ := rn_len hr6
            exact ⟨x, _, c, h⟩
          have HG6 := Lib.hid (HG5.out.tr hg6)
          have HB6 := Lib.hid (HG6.out.heap HBW.out)
          clear hr6 hg6
          have y0 := heap_cell HB6.out 0
          have y1 := heap_cell HB6.out 1
          have y2 := heap_cell HB6.out 2
          have g0 := heap_frz HB6.out 0
          have g1 := heap_frz HB6.out 1
          have g2 := heap_frz HB6.out 2
          have HE := Lib.hid (three_set w6 w.heap.size (.bool true) (.slice va vl vc) (.slice a6 l6 c6) _ _ _ y0 y1 y2 (fun n h => by cases h) (fun n h => by cases h) (fun n h => by cases h))
          go_wp2
          (try simp only [Exit.inBlock, Exit.then])
          refine bodyPost_ret (ret_getdec _ _ _ _ _ HE.out.1 _ rfl rfl rfl) rfl ?_
          exact ⟨⟨_, _, rfl, show RN _ _ _ from HE.out.2.1 _ _ (HV.out.gr HG6.out), show RN _ _ _ from HE.out.2.1 _ _ HR6.out⟩, HE.out.2.2 w (HGWW.out.tr HG6.out) (Nat.le_refl _)⟩
set_option maxRecDepth 100000 in
set_option maxHeartbeats 8000000 in
theorem rdget_sign_n (s t a r : ByteArray) (hs : s.size ≤ 240) (hp : Parts s t true) (I : Nat) (hI : I ≤ t.size) (hex : t.extract 0 I = a) (hno : ∀ j (hj : j < t.size), j < I → (t[j]'hj).toNat ≠ 46) (HPT : Hid (∃ hI : I < t.size, (t[I]'hI).toNat = 46 ∧ t.data.toList.drop (I + 1) = r.data.toList ∧ I + 1 + r.size = t.size)) (HL : Hid (s.size ≤ 60)) (HR : Hid (1 ≤ r.size ∧ r.size ≤ 20)) (HN : Hid (NumT a)) (HD : Hid (¬ Dig r.data.toList)) (w : World) :
    Calls Tryz.prog 17 #[.string s] w fun e w' => e = .returned (.tuple #[.agg #[.bool false, .slice none 0 0, .slice none 0 0], .int .i64 0, .bool false]) ∧ Gr w w' := by
  have HGN := Lib.hid (fun w => rgetN_calls a w)
  have HAZ : Hid (a.size ≤ 240) := Lib.hid (by rw [← hex, ByteArray.size_extract]; have := size_parts hp; omega)
  have z1 := size_parts hp
  have hts240 : t.size ≤ 240 := by omega
  obtain ⟨hpos, h45, e3⟩ : ∃ hpos : 0 < s.size, (s[0]'hpos).toNat = 45 ∧ s.extract 1 s.size = t := by
    rcases hp with ⟨_, h1, h2, h3⟩ | ⟨h1, _⟩
    · exact ⟨h1, h2, h3.symm⟩
    · cases h1
  have e2 : (((s[0]'hpos).toNat : Int) == 45) = true := beq_iff_eq.2 (by omega)
  have hp1 : (1 : Int) ≤ (s.size : Int) := by omega
  have e1 : s.toList.isEmpty = false := by rw [empty_iff]; exact decide_eq_false (fun e => by have := Lib.size_eq s; rw [e] at this; simp only [List.length_nil] at this; omega)
  have HNO := Lib.hid hno
  have HEX := Lib.hid hex
  have HZ := Lib.hid (And.intro hs z1)
  clear hp z1 hno hex h45
  have hbk := heap_alloc_new w (.cells #[.bool false, .slice none 0 0, .slice none 0 0] 29)
  have HBK := Lib.hid hbk
  have HG0 : Hid (Gr w (w.alloc (.cells #[.bool false, .slice none 0 0, .slice none 0 0] 29))) := Lib.hid ((Gr.rf w).alloc (Nat.le_refl _) _)
  clear hbk
  go_enter Tryz.func17, Tryz.ntmps17
  go_wp2_with fail
  go_quiet (fail)
  go_wp2_with fail
  have HG0 := Lib.hid (Gr.drew HG0.out nq)
  have HBK := Lib.hid ((Gr.drew (Gr.rf (w.alloc (.cells #[.bool false, .slice none 0 0, .slice none 0 0] 29))) nq).heap HBK.out)
  generalize (w.alloc (.cells #[.bool false, .slice none 0 0, .slice none 0 0] 29)).drewN nq = w0 at *
  go_loopg [7] (I + 1) (fun g k wr => ∃ j : Nat, g = I + 1 - j ∧ j ≤ I ∧ k = .int .i64 (j : Int) ∧ w0 = wr)
  case atStart => exact ⟨0, rfl, Nat.zero_le _, rfl, rfl⟩
  case round =>
    obtain ⟨j, hg, hji, rfl, rfl⟩ := hrel
    have HGG := Lib.hid hg
    clear hg
    by_cases hlt : j < I
    · have hjs : j < t.size := by omega
      have b1 : decide ((j : Int) < (t.size : Int)) = true := decide_eq_true (by omega)
      have b1n : decide (j < t.size) = true := decide_eq_true hjs
      have hx := HNO.out j hjs hlt
      have b2 : (((t[j]'hjs).toNat : Int) == 46) = false := beq_eq_false_iff_ne.2 (by omega)
      have b2n : ((t[j]'hjs).toNat == 46) = false := beq_eq_false_iff_ne.2 hx
      clear hx
      go_wp2
      go_roundg (I + 1 - (j + 1))
      case measure => have := HGG.out; omega
      case rel => exact ⟨j + 1, rfl, by omega, by first | rfl | go_num, rfl⟩
    · have hjI : j = I := by omega
      subst hjI
      clear hlt hji
      obtain ⟨hjs, h46, hrl, hsz⟩ := HPT.out
      have b1 : decide ((j : Int) < (t.size : Int)) = true := decide_eq_true (by omega)
      have b1n : decide (j < t.size) = true := decide_eq_true hjs
      have b2 : (((t[j]'hjs).toNat : Int) == 46) = true := beq_iff_eq.2 (by omega)
      have b2n : ((t[j]'hjs).toNat == 46) = true := beq_iff_eq.2 h46
      have hpl : (t.size : Int) - (j : Int) - 1 = (r.size : Int) := by omega
      have hmx : max (0 : Int) (r.size : Int) = (r.size : Int) := by omega
      clear h46 hrl hsz
      have b3 : decide (60 < (s.size : Int)) = false := decide_eq_false (by have := HL.out; omega)
      have b3n : decide (60 < s.size) = false := decide_eq_false (by have := HL.out; omega)
      have b4 : decide ((r.size : Int) < 1) = false := decide_eq_false (by have := HR.out; omega)
      have b4n : decide (r.size < 1) = false := decide_eq_false (by have := HR.out; omega)
      have b5 : decide (20 < (r.size : Int)) = false := decide_eq_false (by have := HR.out; omega)
      have b5n : decide (20 < r.size) = false := decide_eq_false (by have := HR.out; omega)
      have hex := HEX.out
      have hj0 : (j : Int) ≤ (t.size : Int) := by omega
      go_wp2_with fail
      refine (HGN.out _).mono ?_
      rintro ev w2 ⟨⟨hr1, _⟩, hg2⟩
      obtain ⟨v2, rfl, hv2⟩ := hr1 HN.out
      have HV2 := Lib.hid hv2
      have HG2 := Lib.hid (HG0.out.tr hg2)
      have HB2 := Lib.hid (hg2.heap HBK.out)
      clear hr1 hg2 hv2 hex
      have hw1 : IntKind.i64.wrap ((j : Int) + 1) = (j : Int) + 1 := by rw [IntKind.wrap_i64]; have := HZ.out; omega
      have HRL : Hid (∀ m (hm : m < r.data.toList.length), ∃ h : j + 1 + m < t.size, t[j + 1 + m]'h = r.data.toList[m]'hm) := Lib.hid (fun m hm => by
        obtain ⟨_, _, hrl, hsz⟩ := HPT.out
        have hms : j + 1 + m < t.size := by rw [← Lib.size_eq] at hm; omega
        refine ⟨hms, ?_⟩
        have hl2 : j + 1 + m < t.data.toList.length := by rw [← Lib.size_eq]; exact hms
        rw [← at_list t _ hms hl2]
        have := List.getElem_drop (xs := t.data.toList) (i := j + 1) (j := m) (h := by rw [hrl]; exact hm)
        rw [← this]
        congr 1)
      have hrs : r.data.toList.length = r.size := (Lib.size_eq r).symm
      have hts : j + 1 + r.size = t.size := by obtain ⟨_, _, _, hsz⟩ := HPT.out; exact hsz
      have HRS := Lib.hid (And.intro hrs hts)
      clear hrs hts
      go_wp2_with fail
      go_loopg [9, 11] (r.size + 1) (fun g n i wr => ∃ m : Nat, g = r.size + 1 - m ∧ m ≤ r.size ∧ i = .int .i64 ((j + 1 + m : Nat) : Int) ∧ Hid (RN wr n (dv (a.data.toList ++ r.data.toList.take m))) ∧ Hid (Dig (r.data.toList.take m)) ∧ Hid (Gr w2 wr))
      case atStart => exact ⟨0, rfl, Nat.zero_le _, by first | rfl | go_num, Lib.hid (by rw [List.take_zero, List.append_nil]; exact HV2.out), Lib.hid (by rw [List.take_zero]; intro c hc; cases hc), Lib.hid (Gr.rf _)⟩
      case round =>
        obtain ⟨m, hg, hm, rfl, HV, HDG, HGW⟩ := hrel
        have HGG2 := Lib.hid hg
        clear hg
        by_cases hlt : m < r.size
        · obtain ⟨hx, hxe⟩ := HRL.out m (by rw [HRS.out.1]; exact hlt)
          have c1 : decide (((j + 1 + m : Nat) : Int) < (t.size : Int)) = true := decide_eq_true (by omega)
          have c1n : decide (j + 1 + m < t.size) = true := decide_eq_true hx
          have hc0 : ((t[j + 1 + m]'hx).toNat : Int) < 256 := by have := (t[j + 1 + m]'hx).toNat_lt; omega
          have HXE := Lib.hid hxe
          clear hxe
          by_cases hdd : 48 ≤ (t[j + 1 + m]'hx).toNat ∧ (t[j + 1 + m]'hx).toNat ≤ 57
          case neg =>
            by_cases hd1 : (t[j + 1 + m]'hx).toNat < 48
            · have c2 : decide (((t[j + 1 + m]'hx).toNat : Int) < 48) = true := decide_eq_true (by omega)
              have c2n : decide ((t[j + 1 + m]'hx).toNat < 48) = true := decide_eq_true hd1
              have y0 := heap_cell (HGW.out.heap HB2.out) 0
              have y1 := heap_cell (HGW.out.heap HB2.out) 1
              have y2 := heap_cell (HGW.out.heap HB2.out) 2
              have g0 := heap_frz (HGW.out.heap HB2.out) 0
              have g1 := heap_frz (HGW.out.heap HB2.out) 1
              have g2 := heap_frz (HGW.out.heap HB2.out) 2
              have HE := Lib.hid (three_set wr w.heap.size (.bool false) (.slice none 0 0) (.slice none 0 0) _ _ _ y0 y1 y2 (fun n h => by cases h) (fun n h => by cases h) (fun n h => by cases h))
              go_wp2
              (try simp only [Exit.inBlock, Exit.then])
              refine bodyPost_ret (ret_getdec _ _ _ _ _ HE.out.1 _ rfl rfl rfl) rfl ?_
              exact ⟨rfl, HE.out.2.2 w (HG2.out.tr HGW.out) (Nat.le_refl _)⟩
            · have c2 : decide (((t[j + 1 + m]'hx).toNat : Int) < 48) = false := decide_eq_false (by omega)
              have c2n : decide ((t[j + 1 + m]'hx).toNat < 48) = false := decide_eq_false hd1
              have c3 : decide (57 < ((t[j + 1 + m]'hx).toNat : Int)) = true := decide_eq_true (by omega)
              have c3n : decide (57 < (t[j + 1 + m]'hx).toNat) = true := decide_eq_true (by omega)
              have y0 := heap_cell (HGW.out.heap HB2.out) 0
              have y1 := heap_cell (HGW.out.heap HB2.out) 1
              have y2 := heap_cell (HGW.out.heap HB2.out) 2
              have g0 := heap_frz (HGW.out.heap HB2.out) 0
              have g1 := heap_frz (HGW.out.heap HB2.out) 1
              have g2 := heap_frz (HGW.out.heap HB2.out) 2
              have HE := Lib.hid (three_set wr w.heap.size (.bool false) (.slice none 0 0) (.slice none 0 0) _ _ _ y0 y1 y2 (fun n h => by cases h) (fun n h => by cases h) (fun n h => by cases h))
              go_wp2
              (try simp only [Exit.inBlock, Exit.then])
              refine bodyPost_ret (ret_getdec _ _ _ _ _ HE.out.1 _ rfl rfl rfl) rfl ?_
              exact ⟨rfl, HE.out.2.2 w (HG2.out.tr HGW.out) (Nat.le_refl _)⟩
          case pos =>
            have hdd1 := hdd.1
            have hdd2 := hdd.2
            have c2 : decide (((t[j + 1 + m]'hx).toNat : Int) < 48) = false := decide_eq_false (by omega)
            have c2n : decide ((t[j + 1 + m]'hx).toNat < 48) = false := decide_eq_false (by omega)
            have c3 : decide (57 < ((t[j + 1 + m]'hx).toNat : Int)) = false := decide_eq_false (by omega)
            have c3n : decide (57 < (t[j + 1 + m]'hx).toNat) = false := decide_eq_false (by omega)
            have HNX := Lib.hid (dv_take_next a.data.toList r.data.toList m (by rw [HRS.out.1]; exact hlt))
            have HDN := Lib.hid (dig_take_next HDG.out (by rw [HRS.out.1]; exact hlt) (by rw [← HXE.out]; exact hdd1) (by rw [← HXE.out]; exact hdd2))
            have hNb : dv (a.data.toList ++ r.data.toList.take m) < Dg.D ^ 30 := dv_D _ (fun c hc => (List.mem_append.1 hc).elim (HN.out.2.2.2 c) (HDG.out c)) 30 (by rw [List.length_append, List.length_take, HRS.out.1, ← Lib.size_eq]; have := HAZ.out; have := HR.out; omega)
            generalize dv (a.data.toList ++ r.data.toList.take m) = M at *
            obtain ⟨y, hy⟩ : ∃ y : Nat, (t[j + 1 + m]'hx).toNat = y := ⟨_, rfl⟩
            obtain ⟨dg, hdg⟩ : ∃ dg : Nat, y = dg + 48 := ⟨y - 48, by omega⟩
            have hq1 : ((t[j + 1 + m]'hx).toNat : Int) - 48 = (dg : Int) := by omega
            have hq2 : IntKind.u8.wrap (dg : Int) = (dg : Int) := by rw [IntKind.wrap_u8]; omega
            have hq3 : IntKind.u64.wrap (dg : Int) = (dg : Int) := by rw [IntKind.wrap_u64]; omega
            have HNX2 : Hid (dv (a.data.toList ++ r.data.toList.take (m + 1)) = M * 10 + dg) := Lib.hid (by rw [HNX.out, ← HXE.out]; omega)
            have HO10 : Hid (∀ w', Calls Tryz.prog 27 #[.int .u64 10] w' fun e w2 => (∃ r, e = .returned r ∧ RN w2 r 10) ∧ Gr w' w2) := Lib.hid (fun w' => r_ofU 10 (by decide) w')
            have HODG : Hid (∀ w' (z : Int), z = (dg : Int) → Calls Tryz.prog 27 #[.int .u64 z] w' fun e w2 => (∃ r, e = .returned r ∧ RN w2 r dg) ∧ Gr w' w2) := Lib.hid (fun w' z hz => by rw [hz]; exact r_ofU dg (by rw [B_eq]; omega) w')
            have HQX : Hid (∀ (i : Nat) (hi : i < t.size), i = j + 1 + m → IntKind.u64.wrap (IntKind.u8.wrap (((t[i]'hi).toNat : Int) - 48)) = (dg : Int)) := Lib.hid (fun i hi e => by subst e; rw [hq1, hq2, hq3])
            have HMUL : Hid (∀ w' x, Gr wr w' → RN w' x 10 → Calls Tryz.prog 80 #[u9, x] w' fun e w2 => (∃ r, e = .returned r ∧ RN w2 r (M * 10)) ∧ Gr w' w2) := Lib.hid (fun w' x hg hx => r_mul (HV.out.gr hg) hx (k := 30) hNb (by decide) (by decide))
            have HADD : Hid (∀ w' x z, RN w' x (M * 10) → RN w' z dg → Calls Tryz.prog 79 #[x, z] w' fun e w2 => (∃ r, e = .returned r ∧ RN w2 r (M * 10 + dg)) ∧ Gr w' w2) := Lib.hid (fun w' x z hx hz => r_add hx hz (k := 31) (b_mul hNb (show 10 < Dg.D ^ 1 by decide) rfl) (Nat.lt_of_lt_of_le (show dg < 10 by omega) (show 10 ≤ Dg.D ^ 31 by decide)) (by decide))
            clear hdd1 hdd2 hdd hNb hy hdg hq1 hq2 hq3
            go_wp2_with fail
            go_region_held3 (fun w' => Gr wr w' ∧ True)
              (first | exact ⟨Gr.drew (Gr.rf _) 1, trivial⟩ | exact ⟨hs6, trivial⟩ | exact ⟨hs5, trivial⟩ | exact ⟨hs4, trivial⟩ | exact ⟨hs3, trivial⟩ | fail)
              (first
                | (go_at_call 27; go_split_ands; first | ((with_reducible refine (HO10.out _).mono ?_); rintro ev w3 ⟨⟨r3, rfl, hr3⟩, hg3⟩; have hs3 : Gr wr w3 := Gr.tr (by assumption) hg3) | (refine (HODG.out _ _ (HQX.out _ _ (by omega))).mono ?_; rintro ev w4 ⟨⟨r4, rfl, hr4⟩, hg4⟩; have hs4 : Gr wr w4 := Gr.tr (by assumption) hg4))
                | (go_at_call 80; go_split_ands; refine (HMUL.out _ _ (by assumption) (by first | exact hr3 | exact hr3.gr hg4)).mono ?_; rintro ev w5 ⟨⟨r5, rfl, hr5⟩, hg5⟩; have hs5 : Gr wr w5 := Gr.tr (by assumption) hg5)
                | (go_at_call 79; go_split_ands; refine (HADD.out _ _ _ (by first | exact hr5 | exact hr5.gr hg4) (by first | exact hr4 | exact hr4.gr hg5 | exact hr4.gr (hg3.tr hg5))).mono ?_; rintro ev w6 ⟨⟨r6, rfl, hr6⟩, hg6⟩; have hs6 : Gr wr w6 := Gr.tr (by assumption) hg6))
            all_goals
              go_wp2
              go_roundg (r.size + 1 - (m + 1))
              case measure => have := HGG2.out; omega
              case rel => exact ⟨m + 1, rfl, by omega, by first | rfl | go_num | (congr 1; omega), Lib.hid (by rw [HNX2.out]; exact hr6), HDN, Lib.hid (HGW.out.tr hs6)⟩
        · have hme : m = r.size := by omega
          subst hme
          exact absurd (by have h := HDG.out; rw [List.take_of_length_le (by rw [HRS.out.1]; exact Nat.le_refl _)] at h; exact h) HD.out
set_option maxRecDepth 100000 in
set_option maxHeartbeats 8000000 in
theorem rdget_sign_p (s t a r : ByteArray) (hs : s.size ≤ 240) (hp : Parts s t false) (hne : 0 < s.size) (I : Nat) (hI : I ≤ t.size) (hex : t.extract 0 I = a) (hno : ∀ j (hj : j < t.size), j < I → (t[j]'hj).toNat ≠ 46) (HPT : Hid (∃ hI : I < t.size, (t[I]'hI).toNat = 46 ∧ t.data.toList.drop (I + 1) = r.data.toList ∧ I + 1 + r.size = t.size)) (HL : Hid (s.size ≤ 60)) (HR : Hid (1 ≤ r.size ∧ r.size ≤ 20)) (HN : Hid (NumT a)) (HD : Hid (¬ Dig r.data.toList)) (w : World) :
    Calls Tryz.prog 17 #[.string s] w fun e w' => e = .returned (.tuple #[.agg #[.bool false, .slice none 0 0, .slice none 0 0], .int .i64 0, .bool false]) ∧ Gr w w' := by
  have HGN := Lib.hid (fun w => rgetN_calls a w)
  have HAZ : Hid (a.size ≤ 240) := Lib.hid (by rw [← hex, ByteArray.size_extract]; have := size_parts hp; omega)
  have z1 := size_parts hp
  obtain ⟨hts, h45⟩ : t = s ∧ ∀ h : 0 < s.size, (s[0]'h).toNat ≠ 45 := by
    rcases hp with ⟨h1, _⟩ | ⟨_, h2, h3⟩
    · cases h1
    · exact ⟨h2, h3⟩
  subst hts
  have hpos : 0 < t.size := hne
  have e2 : (((t[0]'hpos).toNat : Int) == 45) = false := beq_eq_false_iff_ne.2 (by have := h45 hpos; omega)
  have e1 : t.toList.isEmpty = false := by rw [empty_iff]; exact decide_eq_false (fun e => by have := Lib.size_eq t; rw [e] at this; simp only [List.length_nil] at this; omega)
  have HNO := Lib.hid hno
  have HEX := Lib.hid hex
  have HZ := Lib.hid (And.intro hs z1)
  clear hp z1 hno hex h45
  have hbk := heap_alloc_new w (.cells #[.bool false, .slice none 0 0, .slice none 0 0] 29)
  have HBK := Lib.hid hbk
  have HG0 : Hid (Gr w (w.alloc (.cells #[.bool false, .slice none 0 0, .slice none 0 0] 29))) := Lib.hid ((Gr.rf w).alloc (Nat.le_refl _) _)
  clear hbk
  go_enter Tryz.func17, Tryz.ntmps17
  go_wp2_with fail
  go_quiet (fail)
  go_wp2_with fail
  have HG0 := Lib.hid (Gr.drew HG0.out nq)
  have HBK := Lib.hid ((Gr.drew (Gr.rf (w.alloc (.cells #[.bool false, .slice none 0 0, .slice none 0 0] 29))) nq).heap HBK.out)
  generalize (w.alloc (.cells #[.bool false, .slice none 0 0, .slice none 0 0] 29)).drewN nq = w0 at *
  go_loopg [7] (I + 1) (fun g k wr => ∃ j : Nat, g = I + 1 - j ∧ j ≤ I ∧ k = .int .i64 (j : Int) ∧ w0 = wr)
  case atStart => exact ⟨0, rfl, Nat.zero_le _, rfl, rfl⟩
  case round =>
    obtain ⟨j, hg, hji, rfl, rfl⟩ := hrel
    have HGG := Lib.hid hg
    clear hg
    by_cases hlt : j < I
    · have hjs : j < t.size := by omega
      have b1 : decide ((j : Int) < (t.size : Int)) = true := decide_eq_true (by omega)
      have b1n : decide (j < t.size) = true := decide_eq_true hjs
      have hx := HNO.out j hjs hlt
      have b2 : (((t[j]'hjs).toNat : Int) == 46) = false := beq_eq_false_iff_ne.2 (by omega)
      have b2n : ((t[j]'hjs).toNat == 46) = false := beq_eq_false_iff_ne.2 hx
      clear hx
      go_wp2
      go_roundg (I + 1 - (j + 1))
      case measure => have := HGG.out; omega
      case rel => exact ⟨j + 1, rfl, by omega, by first | rfl | go_num, rfl⟩
    · have hjI : j = I := by omega
      subst hjI
      clear hlt hji
      obtain ⟨hjs, h46, hrl, hsz⟩ := HPT.out
      have b1 : decide ((j : Int) < (t.size : Int)) = true := decide_eq_true (by omega)
      have b1n : decide (j < t.size) = true := decide_eq_true hjs
      have b2 : (((t[j]'hjs).toNat : Int) == 46) = true := beq_iff_eq.2 (by omega)
      have b2n : ((t[j]'hjs).toNat == 46) = true := beq_iff_eq.2 h46
      have hpl : (t.size : Int) - (j : Int) - 1 = (r.size : Int) := by omega
      have hmx : max (0 : Int) (r.size : Int) = (r.size : Int) := by omega
      clear h46 hrl hsz
      have b3 : decide (60 < (t.size : Int)) = false := decide_eq_false (by have := HL.out; omega)
      have b3n : decide (60 < t.size) = false := decide_eq_false (by have := HL.out; omega)
      have b4 : decide ((r.size : Int) < 1) = false := decide_eq_false (by have := HR.out; omega)
      have b4n : decide (r.size < 1) = false := decide_eq_false (by have := HR.out; omega)
      have b5 : decide (20 < (r.size : Int)) = false := decide_eq_false (by have := HR.out; omega)
      have b5n : decide (20 < r.size) = false := decide_eq_false (by have := HR.out; omega)
      have hex := HEX.out
      have hj0 : (j : Int) ≤ (t.size : Int) := by omega
      go_wp2_with fail
      refine (HGN.out _).mono ?_
      rintro ev w2 ⟨⟨hr1, _⟩, hg2⟩
      obtain ⟨v2, rfl, hv2⟩ := hr1 HN.out
      have HV2 := Lib.hid hv2
      have HG2 := Lib.hid (HG0.out.tr hg2)
      have HB2 := Lib.hid (hg2.heap HBK.out)
      clear hr1 hg2 hv2 hex
      have hw1 : IntKind.i64.wrap ((j : Int) + 1) = (j : Int) + 1 := by rw [IntKind.wrap_i64]; have := HZ.out; omega
      have HRL : Hid (∀ m (hm : m < r.data.toList.length), ∃ h : j + 1 + m < t.size, t[j + 1 + m]'h = r.data.toList[m]'hm) := Lib.hid (fun m hm => by
        obtain ⟨_, _, hrl, hsz⟩ := HPT.out
        have hms : j + 1 + m < t.size := by rw [← Lib.size_eq] at hm; omega
        refine ⟨hms, ?_⟩
        have hl2 : j + 1 + m < t.data.toList.length := by rw [← Lib.size_eq]; exact hms
        rw [← at_list t _ hms hl2]
        have := List.getElem_drop (xs := t.data.toList) (i := j + 1) (j := m) (h := by rw [hrl]; exact hm)
        rw [← this]
        congr 1)
      have hrs : r.data.toList.length = r.size := (Lib.size_eq r).symm
      have hts : j + 1 + r.size = t.size := by obtain ⟨_, _, _, hsz⟩ := HPT.out; exact hsz
      have HRS := Lib.hid (And.intro hrs hts)
      clear hrs hts
      go_wp2_with fail
      go_loopg [9, 11] (r.size + 1) (fun g n i wr => ∃ m : Nat, g = r.size + 1 - m ∧ m ≤ r.size ∧ i = .int .i64 ((j + 1 + m : Nat) : Int) ∧ Hid (RN wr n (dv (a.data.toList ++ r.data.toList.take m))) ∧ Hid (Dig (r.data.toList.take m)) ∧ Hid (Gr w2 wr))
      case atStart => exact ⟨0, rfl, Nat.zero_le _, by first | rfl | go_num, Lib.hid (by rw [List.take_zero, List.append_nil]; exact HV2.out), Lib.hid (by rw [List.take_zero]; intro c hc; cases hc), Lib.hid (Gr.rf _)⟩
      case round =>
        obtain ⟨m, hg, hm, rfl, HV, HDG, HGW⟩ := hrel
        have HGG2 := Lib.hid hg
        clear hg
        by_cases hlt : m < r.size
        · obtain ⟨hx, hxe⟩ := HRL.out m (by rw [HRS.out.1]; exact hlt)
          have c1 : decide (((j + 1 + m : Nat) : Int) < (t.size : Int)) = true := decide_eq_true (by omega)
          have c1n : decide (j + 1 + m < t.size) = true := decide_eq_true hx
          have hc0 : ((t[j + 1 + m]'hx).toNat : Int) < 256 := by have := (t[j + 1 + m]'hx).toNat_lt; omega
          have HXE := Lib.hid hxe
          clear hxe
          by_cases hdd : 48 ≤ (t[j + 1 + m]'hx).toNat ∧ (t[j + 1 + m]'hx).toNat ≤ 57
          case neg =>
            by_cases hd1 : (t[j + 1 + m]'hx).toNat < 48
            · have c2 : decide (((t[j + 1 + m]'hx).toNat : Int) < 48) = true := decide_eq_true (by omega)
              have c2n : decide ((t[j + 1 + m]'hx).toNat < 48) = true := decide_eq_true hd1
              have y0 := heap_cell (HGW.out.heap HB2.out) 0
              have y1 := heap_cell (HGW.out.heap HB2.out) 1
              have y2 := heap_cell (HGW.out.heap HB2.out) 2
              have g0 := heap_frz (HGW.out.heap HB2.out) 0
              have g1 := heap_frz (HGW.out.heap HB2.out) 1
              have g2 := heap_frz (HGW.out.heap HB2.out) 2
              have HE := Lib.hid (three_set wr w.heap.size (.bool false) (.slice none 0 0) (.slice none 0 0) _ _ _ y0 y1 y2 (fun n h => by cases h) (fun n h => by cases h) (fun n h => by cases h))
              go_wp2
              (try simp only [Exit.inBlock, Exit.then])
              refine bodyPost_ret (ret_getdec _ _ _ _ _ HE.out.1 _ rfl rfl rfl) rfl ?_
              exact ⟨rfl, HE.out.2.2 w (HG2.out.tr HGW.out) (Nat.le_refl _)⟩
            · have c2 : decide (((t[j + 1 + m]'hx).toNat : Int) < 48) = false := decide_eq_false (by omega)
              have c2n : decide ((t[j + 1 + m]'hx).toNat < 48) = false := decide_eq_false hd1
              have c3 : decide (57 < ((t[j + 1 + m]'hx).toNat : Int)) = true := decide_eq_true (by omega)
              have c3n : decide (57 < (t[j + 1 + m]'hx).toNat) = true := decide_eq_true (by omega)
              have y0 := heap_cell (HGW.out.heap HB2.out) 0
              have y1 := heap_cell (HGW.out.heap HB2.out) 1
              have y2 := heap_cell (HGW.out.heap HB2.out) 2
              have g0 := heap_frz (HGW.out.heap HB2.out) 0
              have g1 := heap_frz (HGW.out.heap HB2.out) 1
              have g2 := heap_frz (HGW.out.heap HB2.out) 2
              have HE := Lib.hid (three_set wr w.heap.size (.bool false) (.slice none 0 0) (.slice none 0 0) _ _ _ y0 y1 y2 (fun n h => by cases h) (fun n h => by cases h) (fun n h => by cases h))
              go_wp2
              (try simp only [Exit.inBlock, Exit.then])
              refine bodyPost_ret (ret_getdec _ _ _ _ _ HE.out.1 _ rfl rfl rfl) rfl ?_
              exact ⟨rfl, HE.out.2.2 w (HG2.out.tr HGW.out) (Nat.le_refl _)⟩
          case pos =>
            have hdd1 := hdd.1
            have hdd2 := hdd.2
            have c2 : decide (((t[j + 1 + m]'hx).toNat : Int) < 48) = false := decide_eq_false (by omega)
            have c2n : decide ((t[j + 1 + m]'hx).toNat < 48) = false := decide_eq_false (by omega)
            have c3 : decide (57 < ((t[j + 1 + m]'hx).toNat : Int)) = false := decide_eq_false (by omega)
            have c3n : decide (57 < (t[j + 1 + m]'hx).toNat) = false := decide_eq_false (by omega)
            have HNX := Lib.hid (dv_take_next a.data.toList r.data.toList m (by rw [HRS.out.1]; exact hlt))
            have HDN := Lib.hid (dig_take_next HDG.out (by rw [HRS.out.1]; exact hlt) (by rw [← HXE.out]; exact hdd1) (by rw [← HXE.out]; exact hdd2))
            have hNb : dv (a.data.toList ++ r.data.toList.take m) < Dg.D ^ 30 := dv_D _ (fun c hc => (List.mem_append.1 hc).elim (HN.out.2.2.2 c) (HDG.out c)) 30 (by rw [List.length_append, List.length_take, HRS.out.1, ← Lib.size_eq]; have := HAZ.out; have := HR.out; omega)
            generalize dv (a.data.toList ++ r.data.toList.take m) = M at *
            obtain ⟨y, hy⟩ : ∃ y : Nat, (t[j + 1 + m]'hx).toNat = y := ⟨_, rfl⟩
            obtain ⟨dg, hdg⟩ : ∃ dg : Nat, y = dg + 48 := ⟨y - 48, by omega⟩
            have hq1 : ((t[j + 1 + m]'hx).toNat : Int) - 48 = (dg : Int) := by omega
            have hq2 : IntKind.u8.wrap (dg : Int) = (dg : Int) := by rw [IntKind.wrap_u8]; omega
            have hq3 : IntKind.u64.wrap (dg : Int) = (dg : Int) := by rw [IntKind.wrap_u64]; omega
            have HNX2 : Hid (dv (a.data.toList ++ r.data.toList.take (m + 1)) = M * 10 + dg) := Lib.hid (by rw [HNX.out, ← HXE.out]; omega)
            have HO10 : Hid (∀ w', Calls Tryz.prog 27 #[.int .u64 10] w' fun e w2 => (∃ r, e = .returned r ∧ RN w2 r 10) ∧ Gr w' w2) := Lib.hid (fun w' => r_ofU 10 (by decide) w')
            have HODG : Hid (∀ w' (z : Int), z = (dg : Int) → Calls Tryz.prog 27 #[.int .u64 z] w' fun e w2 => (∃ r, e = .returned r ∧ RN w2 r dg) ∧ Gr w' w2) := Lib.hid (fun w' z hz => by rw [hz]; exact r_ofU dg (by rw [B_eq]; omega) w')
            have HQX : Hid (∀ (i : Nat) (hi : i < t.size), i = j + 1 + m → IntKind.u64.wrap (IntKind.u8.wrap (((t[i]'hi).toNat : Int) - 48)) = (dg : Int)) := Lib.hid (fun i hi e => by subst e; rw [hq1, hq2, hq3])
            have HMUL : Hid (∀ w' x, Gr wr w' → RN w' x 10 → Calls Tryz.prog 80 #[u9, x] w' fun e w2 => (∃ r, e = .returned r ∧ RN w2 r (M * 10)) ∧ Gr w' w2) := Lib.hid (fun w' x hg hx => r_mul (HV.out.gr hg) hx (k := 30) hNb (by decide) (by decide))
            have HADD : Hid (∀ w' x z, RN w' x (M * 10) → RN w' z dg → Calls Tryz.prog 79 #[x, z] w' fun e w2 => (∃ r, e = .returned r ∧ RN w2 r (M * 10 + dg)) ∧ Gr w' w2) := Lib.hid (fun w' x z hx hz => r_add hx hz (k := 31) (b_mul hNb (show 10 < Dg.D ^ 1 by decide) rfl) (Nat.lt_of_lt_of_le (show dg < 10 by omega) (show 10 ≤ Dg.D ^ 31 by decide)) (by decide))
            clear hdd1 hdd2 hdd hNb hy hdg hq1 hq2 hq3
            go_wp2_with fail
            go_region_held3 (fun w' => Gr wr w' ∧ True)
              (first | exact ⟨Gr.drew (Gr.rf _) 1, trivial⟩ | exact ⟨hs6, trivial⟩ | exact ⟨hs5, trivial⟩ | exact ⟨hs4, trivial⟩ | exact ⟨hs3, trivial⟩ | fail)
              (first
                | (go_at_call 27; go_split_ands; first | ((with_reducible refine (HO10.out _).mono ?_); rintro ev w3 ⟨⟨r3, rfl, hr3⟩, hg3⟩; have hs3 : Gr wr w3 := Gr.tr (by assumption) hg3) | (refine (HODG.out _ _ (HQX.out _ _ (by omega))).mono ?_; rintro ev w4 ⟨⟨r4, rfl, hr4⟩, hg4⟩; have hs4 : Gr wr w4 := Gr.tr (by assumption) hg4))
                | (go_at_call 80; go_split_ands; refine (HMUL.out _ _ (by assumption) (by first | exact hr3 | exact hr3.gr hg4)).mono ?_; rintro ev w5 ⟨⟨r5, rfl, hr5⟩, hg5⟩; have hs5 : Gr wr w5 := Gr.tr (by assumption) hg5)
                | (go_at_call 79; go_split_ands; refine (HADD.out _ _ _ (by first | exact hr5 | exact hr5.gr hg4) (by first | exact hr4 | exact hr4.gr hg5 | exact hr4.gr (hg3.tr hg5))).mono ?_; rintro ev w6 ⟨⟨r6, rfl, hr6⟩, hg6⟩; have hs6 : Gr wr w6 := Gr.tr (by assumption) hg6))
            all_goals
              go_wp2
              go_roundg (r.size + 1 - (m + 1))
              case measure => have := HGG2.out; omega
              case rel => exact ⟨m + 1, rfl, by omega, by first | rfl | go_num | (congr 1; omega), Lib.hid (by rw [HNX2.out]; exact hr6), HDN, Lib.hid (HGW.out.tr hs6)⟩
        · have hme : m = r.size := by omega
          subst hme
          exact absurd (by have h := HDG.out; rw [List.take_of_length_le (by rw [HRS.out.1]; exact Nat.le_refl _)] at h; exact h) HD.out
/-- rentierref2.GetDec. -/
theorem rgetDec_calls (s t a r : ByteArray) (neg pt : Bool) (hs : s.size ≤ 240) (hp : Parts s t neg) (hc : CutP t a r pt) (w : World) :
    Calls Tryz.prog 17 #[.string s] w fun e w' => ((DecT s a r neg pt → ∃ va vb, e = .returned (.tuple #[.agg #[.bool neg, va, vb], .int .i64 (r.size : Int), .bool true]) ∧ RN w' va (dv (a.data.toList ++ r.data.toList)) ∧ RN w' vb (10 ^ r.size)) ∧ (¬ DecT s a r neg pt → e = .returned (.tuple #[.agg #[.bool false, .slice none 0 0, .slice none 0 0], .int .i64 0, .bool false]))) ∧ Gr w w' := by
  obtain ⟨I, hI, hex, hno, hend⟩ := cutP_at hc
  have hno' : ∀ {P : Prop}, ¬ P → ∀ {Q : Ending → World → Prop}, Calls Tryz.prog 17 #[.string s] w (fun e w' => e = .returned (.tuple #[.agg #[.bool false, .slice none 0 0, .slice none 0 0], .int .i64 0, .bool false]) ∧ Gr w w') → Calls Tryz.prog 17 #[.string s] w fun e w' => ((P → Q e w') ∧ (¬ P → e = .returned (.tuple #[.agg #[.bool false, .slice none 0 0, .slice none 0 0], .int .i64 0, .bool false]))) ∧ Gr w w' := fun hn _ h => h.mono fun e w' h => ⟨⟨fun hp => absurd hp hn, fun _ => h.1⟩, h.2⟩
  have hyes : ∀ {P : Prop}, P → ∀ {Q : Ending → World → Prop}, Calls Tryz.prog 17 #[.string s] w (fun e w' => Q e w' ∧ Gr w w') → Calls Tryz.prog 17 #[.string s] w fun e w' => ((P → Q e w') ∧ (¬ P → e = .returned (.tuple #[.agg #[.bool false, .slice none 0 0, .slice none 0 0], .int .i64 0, .bool false]))) ∧ Gr w w' := fun hy _ h => h.mono fun e w' h => ⟨⟨fun _ => h.1, fun hn => absurd hy hn⟩, h.2⟩
  rcases hend with ⟨rfl, ⟨hI2, h46⟩, hrl, hsz⟩ | ⟨rfl, hIe, hr0⟩
  · have HPT : Hid (∃ hI : I < t.size, (t[I]'hI).toNat = 46 ∧ t.data.toList.drop (I + 1) = r.data.toList ∧ I + 1 + r.size = t.size) := Lib.hid ⟨hI2, h46, hrl, hsz⟩
    have hne : 0 < s.size := by have := size_parts hp; omega
    by_cases hl : s.size ≤ 60
    case neg =>
      refine hno' (fun h => hl h.1) ?_
      cases neg
      · exact rdget_long_pt s t a r hs hp hne I hI hex hno HPT (Lib.hid (by omega)) w
      · exact rdget_long_nt s t a r hs hp I hI hex hno HPT (Lib.hid (by omega)) w
    case pos =>
      have HL := Lib.hid hl
      rcases Nat.eq_zero_or_pos r.size with h0 | h0
      · refine hno' (fun h => by have := (h.2.1 rfl).1; omega) ?_
        cases neg
        · exact rdget_few_p s t a r hs hp hne I hI hex hno HPT HL (Lib.hid h0) w
        · exact rdget_few_n s t a r hs hp I hI hex hno HPT HL (Lib.hid h0) w
      · by_cases h20 : r.size ≤ 20
        case neg =>
          refine hno' (fun h => h20 (h.2.1 rfl).2.1) ?_
          cases neg
          · exact rdget_many_p s t a r hs hp hne I hI hex hno HPT HL (Lib.hid (by omega)) w
          · exact rdget_many_n s t a r hs hp I hI hex hno HPT HL (Lib.hid (by omega)) w
        case pos =>
          have HR : Hid (1 ≤ r.size ∧ r.size ≤ 20) := Lib.hid ⟨h0, h20⟩
          by_cases hn : NumT a
          case neg =>
            refine hno' (fun h => hn h.2.2.1) ?_
            cases neg
            · exact rdget_nonum_pt s t a r hs hp hne I hI hex hno HPT HL HR (Lib.hid hn) w
            · exact rdget_nonum_nt s t a r hs hp I hI hex hno HPT HL HR (Lib.hid hn) w
          case pos =>
            have HN := Lib.hid hn
            by_cases hd : Dig r.data.toList
            case neg =>
              refine hno' (fun h => hd (h.2.1 rfl).2.2) ?_
              cases neg
              · exact rdget_sign_p s t a r hs hp hne I hI hex hno HPT HL HR HN (Lib.hid hd) w
              · exact rdget_sign_n s t a r hs hp I hI hex hno HPT HL HR HN (Lib.hid hd) w
            case pos =>
              cases neg
              · exact hyes ⟨hl, fun _ => ⟨h0, h20, hd⟩, hn, (fun h => by cases h)⟩ (rdget_point_p s t a r hs hp hne I hI hex hno HPT HL HR HN (Lib.hid hd) w)
              · by_cases hv : dv (a.data.toList ++ r.data.toList) = 0
                · exact hno' (fun h => h.2.2.2 rfl hv) (rdget_point_nz s t a r hs hp I hI hex hno HPT HL HR HN (Lib.hid hd) (Lib.hid hv) w)
                · exact hyes ⟨hl, fun _ => ⟨h0, h20, hd⟩, hn, fun _ => hv⟩ (rdget_point_nq s t a r hs hp I hI hex hno HPT HL HR HN (Lib.hid hd) (Lib.hid hv) w)
  · have HPT : Hid (I = t.size) := Lib.hid hIe
    have hrn : r.data.toList = [] := List.eq_nil_of_length_eq_zero (by rw [← Lib.size_eq]; exact hr0)
    by_cases hl : s.size ≤ 60
    case neg =>
      refine hno' (fun h => hl h.1) ?_
      cases neg
      · exact rdget_long_pf s t a r hs hp (by omega) I hI hex hno HPT (Lib.hid (by omega)) w
      · exact rdget_long_nf s t a r hs hp I hI hex hno HPT (Lib.hid (by omega)) w
    case pos =>
      have HL := Lib.hid hl
      by_cases hn : NumT a
      case neg =>
        refine hno' (fun h => hn h.2.2.1) ?_
        cases neg
        · rcases Nat.eq_zero_or_pos s.size with hne | hne
          · exact rdget_nonum_ef s t a r hs hp hne I hI hex hno HPT HL (Lib.hid hn) w
          · exact rdget_nonum_pf s t a r hs hp hne I hI hex hno HPT HL (Lib.hid hn) w
        · exact rdget_nonum_nf s t a r hs hp I hI hex hno HPT HL (Lib.hid hn) w
      case pos =>
        have HN := Lib.hid hn
        have hne : 0 < s.size := by
          have h1 := size_parts hp
          have h2 := hn.1
          rw [← hex, ByteArray.size_extract] at h2
          omega
        have hrz : ((r.size : Nat) : Int) = 0 := by omega
        rw [hrn, List.append_nil, hrz, hr0]
        have hyes2 : ∀ {P : Prop}, P → (neg = true → dv a.data.toList ≠ 0) → P := fun h _ => h
        cases neg
        · exact hyes ⟨hl, (fun h => by cases h), hn, (fun h => by cases h)⟩ (rdget_whole_p s t a r hs hp hne I hI hex hno HPT HL HN w)
        · by_cases hv : dv a.data.toList = 0
          · exact hno' (fun h => h.2.2.2 rfl (by rw [hrn, List.append_nil]; exact hv)) (rdget_whole_nz s t a r hs hp I hI hex hno HPT HL HN (Lib.hid hv) w)
          · exact hyes ⟨hl, (fun h => by cases h), hn, fun _ => by rw [hrn, List.append_nil]; exact hv⟩ (rdget_whole_nq s t a r hs hp I hI hex hno HPT HL HN (Lib.hid hv) w)
end Go.Proofs.YtcjjgdoafkdeaaaGreatDoor
