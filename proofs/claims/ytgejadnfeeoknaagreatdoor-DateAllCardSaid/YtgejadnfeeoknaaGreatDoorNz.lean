/- Layer 2: nat.Get by contract. -/
import Derived.Test.YtgejadnfeeoknaaGreatDoorNx
import Derived.Test.YtgejadnfeeoknaaGreatDoorNy
import Derived.Shelf.Strings.SlTrimAscii
namespace Go.Proofs.YtgejadnfeeoknaaGreatDoor
open Go.RowKit Go.Extern.Stop Go.Stop Go.Extern Go.Sort
set_option linter.unusedVariables false
set_option linter.unusedSimpArgs false

theorem trim_calls (s : ByteArray) (hs : s.size ≤ 9223372036854775807) (w : World) :
    Calls Tryz.prog 126 #[.string s, .string ⟨#[48, 49, 50, 51, 52, 53, 54, 55, 56, 57]⟩] w fun e w' => e = .returned (.string ⟨(Lib.trimS s.data.toList tens).toArray⟩) ∧ Gr w w' := by
  refine (Any.strings_Trim_laid Tryz.lays160 (by kernel_rfl) s ⟨#[48, 49, 50, 51, 52, 53, 54, 55, 56, 57]⟩ w hs (by decide) (ascii_of_all (by decide))).mono ?_
  rintro e w' ⟨rfl, hb⟩
  exact ⟨rfl, Gr.below hb⟩

theorem bytes_gr (w : World) (e : TypeId) (s : ByteArray) : Gr w (Lib.bytesWorld w e s) :=
  ⟨by simp [Lib.bytesWorld, World.freeze]; rfl, by simp [Lib.bytesWorld, World.freeze], by simp [Lib.bytesWorld, World.freeze]; rfl, by rw [Lib.bytesWorld_size]; omega, fun i hi => Lib.bytesWorld_at_old w e s i hi⟩
theorem parse_calls (P : ByteArray) (hd : Dig P.data.toList) (hne : P.data.toList ≠ []) (hl : P.data.toList.length ≤ 18) (w : World) :
    Calls Tryz.prog 127 #[.string P, .int .i64 10, .int .i64 64] w fun e w' => e = .returned (.tuple #[.int .u64 ((dv P.data.toList : Nat) : Int), .nilIface]) ∧ Gr w w' := by
  refine (Tryz.strconv_ParseUint_10_at64_ok P (by rw [Lib.size_eq]; omega) _ (parse_digits _ hd hne hl).1 w).mono ?_
  rintro e w' ⟨rfl, hw⟩
  refine ⟨rfl, ?_⟩
  rcases hw with rfl | rfl
  · exact Gr.rf _
  · exact bytes_gr _ _ _
theorem ofUnit_calls (w : World) : Calls Tryz.prog 92 #[.int .u64 1000000000000000000] w fun e w' => (∃ r, e = .returned r ∧ NatAt w' r 1000000000000000000) ∧ Gr w w' := by
  refine (of_nat_calls 1000000000000000000 (by decide) w).mono ?_
  rintro e w' ⟨⟨r, rfl, h⟩, hg⟩
  exact ⟨⟨r, rfl, h.at_⟩, hg⟩
theorem ten_pow_le (l k : Nat) (h : l ≤ 18 * k) : 10 ^ l ≤ B ^ k :=
  Nat.le_trans (Nat.pow_le_pow_right (by decide) h) (by rw [Nat.pow_mul]; exact Nat.pow_le_pow_left (by decide) _)
theorem piece (t : ByteArray) (f : Nat) (hf : f ≤ t.size) : (t.extract 0 f).data.toList = t.data.toList.take f ∧ (t.extract f t.size).data.toList = t.data.toList.drop f ∧ (t.extract f t.size).size = t.size - f := by
  have h1 : (t.extract 0 f).data.toList = t.data.toList.take f := by rw [← ByteArray.toList_eq, Lib.extract_toList]; simp
  have h2 : (t.extract f t.size).data.toList = t.data.toList.drop f := by
    rw [← ByteArray.toList_eq, Lib.extract_toList]
    exact List.take_of_length_le (by rw [List.length_drop, Lib.size_eq]; exact Nat.le_refl _)
  refine ⟨h1, h2, ?_⟩
  rw [Lib.size_eq, h2, List.length_drop, Lib.size_eq]

set_option maxRecDepth 100000 in
set_option maxHeartbeats 8000000 in
/-- nat.Get of digits. -/
theorem get_nat_ok (s : ByteArray) (w : World) (hne : 0 < s.size) (hlen : s.size ≤ 4000) (hd : Dig s.data.toList) (h0 : s.size = 1 ∨ ∀ h : 0 < s.size, (s[0]'h).toNat ≠ 48) :
    Calls Tryz.prog 91 #[.string s] w fun e w' => (∃ r, e = .returned (.tuple #[r, .nilIface]) ∧ NatP w' r (dv s.data.toList)) ∧ Gr w w' := by
  have hT := trim_calls s (by omega) w
  rw [(trim_digits _).2 hd] at hT
  have HT := Lib.hid hT
  have e1 : s.toList.isEmpty = false := by
    rw [ByteArray.toList_eq]
    cases h : s.data.toList with
    | nil => rw [Lib.size_eq, h] at hne; simp at hne
    | cons a l => rfl
  have e2 : decide ((4000 : Int) < (s.size : Int)) = false := decide_eq_false (by omega)
  have HD := Lib.hid hd
  clear hT hd
  have e3 : (s.size = 1 ∧ decide ((1 : Int) < (s.size : Int)) = false) ∨ (decide ((1 : Int) < (s.size : Int)) = true ∧ ∀ h : 0 < s.size, (((s[0]'h).toNat : Int) == 48) = false) := by
    by_cases h1 : s.size = 1
    · exact .inl ⟨h1, decide_eq_false (by omega)⟩
    · refine .inr ⟨decide_eq_true (by omega), fun h => beq_eq_false_iff_ne.2 ?_⟩
      have := h0.resolve_left h1 h
      omega
  have hdl : dv s.data.toList < B ^ 250 := by
    have h1 := dv_lt _ HD.out
    exact Nat.lt_of_lt_of_le h1 (ten_pow_le _ 250 (by rw [← Lib.size_eq]; omega))
  have HDL := Lib.hid hdl
  clear h0 hdl
  rcases e3 with ⟨hs1, b3⟩ | ⟨b3, b4⟩
  case' inl => have HS1 := Lib.hid hs1; clear hs1
  case' inr => have b5 := b4 hne; clear b4
  all_goals
    go_enter Tryz.func91, Tryz.ntmps91
    go_wp2_with (go_at_call 126; (with_reducible refine HT.out.mono ?_); rintro ev w1 ⟨rfl, hg1⟩)
    go_wp2_with (go_at_call 92; (with_reducible refine (of0_calls _).mono ?_); rintro ev w2 ⟨⟨r2, rfl, hr2⟩, hg2⟩; have HR2 := Lib.hid hr2; clear hr2)
    go_wp2_with (go_at_call 92; (with_reducible refine (ofUnit_calls _).mono ?_); rintro ev w3 ⟨⟨r3, rfl, hr3⟩, hg3⟩; have HR3 := Lib.hid hr3; clear hr3)
    go_loopg [0, 5, 7] s.size (fun k sv ov fv wr => ∃ (t : ByteArray) (pre : List UInt8) (f : Nat), sv = .string t ∧ fv = .int .i64 (f : Int) ∧ k = t.size ∧ NatP wr ov (dv pre) ∧ pre ++ t.data.toList = s.data.toList ∧ (0 < t.size → 1 ≤ f ∧ f ≤ 18 ∧ f ≤ t.size ∧ (t.size - f) % 18 = 0) ∧ t.size ≤ s.size ∧ dv pre * 10 ^ f = dv pre * 1000000000000000000 ∧ Gr w3 wr)
    case atStart => exact ⟨s, [], (s.size - 1) % 18 + 1, rfl, by congr 1; omega, rfl, HR2.out.gr hg3, rfl, fun _ => by omega, Nat.le_refl _, by simp [dv], Gr.rf _⟩
    case round =>
      obtain ⟨t, pre, f, rfl, rfl, hk, ho, hpre, hf, hts, hpf, hgr⟩ := hrel
      have HK := Lib.hid hk
      have HO := Lib.hid ho
      have HP := Lib.hid hpre
      have HPF := Lib.hid hpf
      have HFF := Lib.hid hf
      clear hk ho hpre hpf hf
      by_cases ht : 0 < t.size
      · obtain ⟨f1, f2, f3, f4⟩ := HFF.out ht
        have F4 := Lib.hid f4
        obtain ⟨p1, p2, p3⟩ := piece t f f3
        have q1 : t.toList.isEmpty = false := by
          rw [ByteArray.toList_eq]
          cases h : t.data.toList with
          | nil => rw [Lib.size_eq, h] at ht; simp at ht
          | cons a l => rfl
        have q2 : (!t.toList.isEmpty) = true := by rw [q1]; rfl
        have hsplit : t.data.toList = t.data.toList.take f ++ t.data.toList.drop f := (List.take_append_drop _ _).symm
        have hdig : Dig (t.data.toList.take f) := fun c hc => HD.out c (by rw [← HP.out]; exact List.mem_append_right _ (List.mem_of_mem_take hc))
        have hlen : (t.data.toList.take f).length = f := by rw [List.length_take, ← Lib.size_eq]; omega
        have hpu := parse_calls (t.extract 0 f) (by rw [p1]; exact hdig) (by rw [p1]; intro h; rw [h] at hlen; simp at hlen; omega) (by rw [p1, hlen]; exact f2)
        rw [p1] at hpu
        have hdvB := (parse_digits _ hdig (by intro h; rw [h] at hlen; simp at hlen; omega) (by rw [hlen]; exact f2)).2
        have hnew : (pre ++ t.data.toList.take f) ++ t.data.toList.drop f = s.data.toList := by rw [List.append_assoc, List.take_append_drop]; exact HP.out
        have hdvp : dv (pre ++ t.data.toList.take f) = dv pre * 10 ^ f + dv (t.data.toList.take f) := by rw [dv_append, hlen]
        rw [HPF.out] at hdvp
        have hnle : dv (pre ++ t.data.toList.take f) ≤ dv s.data.toList := by
          rw [← hnew, dv_append (pre ++ _)]
          exact Nat.le_trans (Nat.le_mul_of_pos_right _ (Nat.pow_pos (by decide))) (Nat.le_add_right _ _)
        have hb2 : dv (pre ++ t.data.toList.take f) < B ^ 250 := Nat.lt_of_le_of_lt hnle HDL.out
        have HNEW := Lib.hid (And.intro p2 (And.intro p3 hnew))
        generalize dv (t.data.toList.take f) = u at hpu hdvB hdvp
        have hb1 : dv pre * 1000000000000000000 < B ^ 250 := by omega
        have hb0 : dv pre < B ^ 250 := Nat.lt_of_le_of_lt (Nat.le_mul_of_pos_right _ (by decide)) hb1
        have hbu : u < B ^ 250 := by omega
        have HPU := Lib.hid hpu
        have HDV := Lib.hid hdvp
        have HB := Lib.hid (And.intro hb0 (And.intro hb1 (And.intro hbu hb2)))
        have HUB := Lib.hid (show u < B by have := B_eq; omega)
        have hfs : f ≤ t.size := f3
        clear hpu hdvp hb0 hb1 hbu hb2 hnle hnew hdvB hdig hlen hsplit p1 p2 f4
        go_wp2_with (go_at_call 127; (with_reducible refine (HPU.out _).mono ?_); rintro ev w4 ⟨rfl, hg4⟩)
        have HMU := Lib.hid (mul_calls _ _ (dv pre) 1000000000000000000 w4 (HO.out.gr hg4).at_ (HR3.out.gr (hgr.tr hg4)) 250 HB.out.1 (Nat.lt_of_lt_of_le (show 1000000000000000000 < B ^ 1 by decide) (Nat.pow_le_pow_right B_pos (by decide))) (by omega))
        go_wp2_with (go_at_call 98; (with_reducible refine HMU.out.mono ?_); rintro ev w5 ⟨⟨r5, rfl, hr5⟩, hg5⟩; have HR5 := Lib.hid hr5; clear hr5)
        have HOF := Lib.hid (of_nat_calls u HUB.out w5)
        go_wp2_with (go_at_call 92; (with_reducible refine HOF.out.mono ?_); rintro ev w6 ⟨⟨r6, rfl, hr6⟩, hg6⟩; have HR6 := Lib.hid hr6; clear hr6)
        have HAD := Lib.hid (add_calls _ _ (dv pre * 1000000000000000000) u w6 (HR5.out.gr hg6).at_ HR6.out.at_ 250 HB.out.2.1 HB.out.2.2.1 (by omega))
        go_wp2_with (go_at_call 99; (with_reducible refine HAD.out.mono ?_); rintro ev w7 ⟨⟨r7, rfl, hr7⟩, hg7⟩; have HR7 := Lib.hid hr7; clear hr7)
        go_roundg (t.extract f t.size).size
        case measure => have := HK.out; have := HNEW.out.2.1; omega
        case rel => exact ⟨t.extract f t.size, pre ++ t.data.toList.take f, 18, rfl, rfl, rfl, by rw [HDV.out]; exact HR7.out, by rw [HNEW.out.1]; exact HNEW.out.2.2, fun _ => by have := HNEW.out.2.1; have := F4.out; omega, by have := HNEW.out.2.1; omega, rfl, (((hgr.tr hg4).tr hg5).tr hg6).tr hg7⟩
      · have hnil : t.data.toList = [] := by
          have h1 : t.size = 0 := by omega
          rw [Lib.size_eq] at h1
          exact List.eq_nil_of_length_eq_zero h1
        have hpe : pre = s.data.toList := by have := HP.out; rw [hnil, List.append_nil] at this; exact this
        have q1 : t.toList.isEmpty = true := by rw [ByteArray.toList_eq, hnil]; rfl
        have q2 : (!t.toList.isEmpty) = false := by rw [q1]; rfl
        have HPE := Lib.hid hpe
        clear hnil hpe
        go_wp2
        go_ret2
        exact ⟨⟨_, rfl, by rw [← HPE.out]; exact HO.out⟩, ((hg1.tr hg2).tr hg3).tr hgr⟩

set_option maxRecDepth 100000 in
set_option maxHeartbeats 4000000 in
/-- nat.Get of what is no number. -/
theorem get_nat_bad (s : ByteArray) (w : World) (hs : s.size ≤ 9223372036854775807) (h : s.size = 0 ∨ 4000 < s.size ∨ (1 < s.size ∧ ∀ h : 0 < s.size, (s[0]'h).toNat = 48) ∨ ¬ Dig s.data.toList) :
    Calls Tryz.prog 91 #[.string s] w fun e w' => e = .returned (.tuple #[.pointer none, .iface 89 (.int .i64 1)]) ∧ Gr w w' := by
  have HO := Lib.hid (of_calls 1 rfl)
  by_cases c1 : s.size = 0
  · have e1 : s.toList.isEmpty = true := by
      rw [ByteArray.toList_eq]
      rw [Lib.size_eq] at c1
      rw [List.eq_nil_of_length_eq_zero c1]; rfl
    clear h
    go_enter Tryz.func91, Tryz.ntmps91
    go_wp2_with (go_at_call 54; (with_reducible refine (HO.out _).mono ?_); rintro ev w1 ⟨rfl, rfl⟩)
    go_ret2
    exact ⟨rfl, Gr.rf _⟩
  · have e1 : s.toList.isEmpty = false := by
      rw [ByteArray.toList_eq]
      cases h : s.data.toList with
      | nil => rw [Lib.size_eq, h] at c1; simp at c1
      | cons a l => rfl
    have hpos : 0 < s.size := by omega
    by_cases c2 : 4000 < s.size
    · have e2 : decide ((4000 : Int) < (s.size : Int)) = true := decide_eq_true (by omega)
      clear h
      go_enter Tryz.func91, Tryz.ntmps91
      go_wp2_with (go_at_call 54; (with_reducible refine (HO.out _).mono ?_); rintro ev w1 ⟨rfl, rfl⟩)
      go_ret2
      exact ⟨rfl, Gr.rf _⟩
    · have e2 : decide ((4000 : Int) < (s.size : Int)) = false := decide_eq_false (by omega)
      by_cases c3 : 1 < s.size ∧ (s[0]'hpos).toNat = 48
      · have e3 : decide ((1 : Int) < (s.size : Int)) = true := decide_eq_true (by omega)
        have e4 : (((s[0]'hpos).toNat : Int) == 48) = true := beq_iff_eq.2 (by omega)
        clear h
        go_enter Tryz.func91, Tryz.ntmps91
        go_wp2_with (go_at_call 54; (with_reducible refine (HO.out _).mono ?_); rintro ev w1 ⟨rfl, rfl⟩)
        go_ret2
        exact ⟨rfl, Gr.rf _⟩
      · have hnd : ¬ Dig s.data.toList := by
          rcases h with h | h | h | h
          · exact absurd h c1
          · exact absurd h c2
          · exact absurd ⟨h.1, h.2 hpos⟩ c3
          · exact h
        have hT := trim_calls s hs w
        have hne : Lib.trimS s.data.toList tens ≠ [] := fun e => hnd ((trim_digits _).1 e)
        obtain ⟨X, hX⟩ : ∃ X : ByteArray, X = ⟨(Lib.trimS s.data.toList tens).toArray⟩ := ⟨_, rfl⟩
        rw [← hX] at hT
        have x1 : X.toList.isEmpty = false := by
          rw [ByteArray.toList_eq, hX]
          cases h : Lib.trimS s.data.toList tens with
          | nil => exact absurd h hne
          | cons a l => rfl
        have x2 : (!X.toList.isEmpty) = true := by rw [x1]; rfl
        have HT := Lib.hid hT
        have e3 : decide ((1 : Int) < (s.size : Int)) = false ∨ decide ((1 : Int) < (s.size : Int)) = true ∧ (((s[0]'hpos).toNat : Int) == 48) = false := by
          by_cases h1 : 1 < s.size
          · exact .inr ⟨decide_eq_true (by omega), beq_eq_false_iff_ne.2 (fun e => c3 ⟨h1, by omega⟩)⟩
          · exact .inl (decide_eq_false (by omega))
        clear hT hX hne hnd h c1 c3
        rcases e3 with e3 | ⟨e3, e4⟩
        all_goals
          go_enter Tryz.func91, Tryz.ntmps91
          go_wp2_with (go_at_call 126; (with_reducible refine HT.out.mono ?_); rintro ev w1 ⟨rfl, hg1⟩)
          go_wp2_with (go_at_call 54; (with_reducible refine (HO.out _).mono ?_); rintro ev w2 ⟨rfl, rfl⟩)
          go_ret2
          exact ⟨rfl, hg1⟩
end Go.Proofs.YtgejadnfeeoknaaGreatDoor
