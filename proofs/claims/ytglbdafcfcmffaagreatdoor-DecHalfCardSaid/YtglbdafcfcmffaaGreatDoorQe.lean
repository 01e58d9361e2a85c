/- Layer 2's reference: Text by contract. -/
import Derived.Test.YtglbdafcfcmffaaGreatDoorQd
import Derived.Test.YtglbdafcfcmffaaGreatDoorGj
import Derived.Test.YtglbdafcfcmffaaGreatDoorGq
import Derived.Laws.IdiomStrings
namespace Go.Proofs.YtglbdafcfcmffaaGreatDoor
open Go.RowKit Go.Extern.Stop Go.Stop Go.Extern Go.Sort
set_option linter.unusedVariables false
set_option linter.unusedSimpArgs false

theorem byte_cons (c : UInt8) (S : ByteArray) : ((⟨#[c]⟩ : ByteArray) ++ S).data.toList = c :: S.data.toList := by
  rw [ByteArray.data_append, Array.toList_append]; rfl
theorem one_byte (w : World) (c : UInt8) (T E : TypeId) (hT : Tryz.prog.underlying T = some (.slice E)) (hE : Tryz.prog.underlying E = some (.int .u8)) (t : TypeId) (hS : Tryz.prog.underlying t = some .string) (u : TypeId) :
    (convert T t (.slice (some ⟨w.heap.size, 0, none⟩) 1 1)).run Tryz.prog (w.alloc (.cells #[.int .u8 (c.toNat : Int)] u)) = .ok (.string ⟨#[c]⟩) (w.alloc (.cells #[.int .u8 (c.toNat : Int)] u)) :=
  run_convert_bytes_back (P := Tryz.prog) _ T t E ⟨w.heap.size, 0, none⟩ 1 [c] hT hE hS (fun j hj => by
    have : j = 0 := by simpa using hj
    subst this
    rw [Go.WideShapes.add_plain, World.cell?_alloc_at _ _ _ _ rfl]
    rfl)
set_option maxRecDepth 100000 in
set_option maxHeartbeats 8000000 in
/-- The reference's Text. -/
theorem rtext_calls (v : Value) (n : Nat) (w : World) (h : RN w v n) (hn : n < Dg.D ^ 500) :
    Calls Tryz.prog 42 #[v] w fun e w' => e = .returned (.string ⟨(Lib.decDigits n).toArray⟩) ∧ Gr w w' := by
  have hll := Dg.digs_len n 500 hn
  have HLM := Lib.hid (Dg.digs_limbs n)
  have HVL := Lib.hid (Dg.val_digs n)
  unfold RN at h
  have HL := Lib.hid h
  generalize Dg.digs n = l at *
  obtain ⟨a, c, rfl⟩ := h.slice
  clear h hn
  go_enter Tryz.func42, Tryz.ntmps42
  go_wp2
  go_loopg [3, 4] l.length (fun g ss si wr => ∃ (k : Nat) (S : ByteArray), g = l.length - k ∧ k ≤ l.length ∧ ss = .string S ∧ si = .int .i64 (k : Int) ∧ S.size = 9 * k ∧ Hid (Dig S.data.toList) ∧ Hid (dv S.data.toList = Dg.val (l.take k)) ∧ Hid (Gr w wr))
  case atStart => exact ⟨0, ⟨#[]⟩, rfl, Nat.zero_le _, rfl, rfl, rfl, Lib.hid (fun c hc => by cases hc), Lib.hid rfl, Lib.hid (Gr.rf w)⟩
  case round =>
    obtain ⟨k, S, hg, hk, rfl, rfl, hS, HDG, HDV, HG⟩ := hrel
    have HGG := Lib.hid hg
    clear hg
    by_cases hlt : k < l.length
    · have b1 : decide ((k : Int) < (l.length : Int)) = true := decide_eq_true (by omega)
      have b1n : decide (k < l.length) = true := decide_eq_true hlt
      obtain ⟨g1, o1, c1, e1, hc1⟩ := HL.out.get HG.out k hlt
      cases e1
      have hx9 := HLM.out (l[k]) (List.getElem_mem hlt)
      rw [show l.getD k 0 = l[k] by simp [hlt]] at hc1
      generalize hxx : l[k] = x at hc1 hx9
      have HXX := Lib.hid hxx
      rw [show Dg.D = 1000000000 from rfl] at hx9
      clear hxx
      go_wp2
      go_loopg [3, 5, 6] 9 (fun g2 ss sd sk wr2 => ∃ (m : Nat) (T : ByteArray), g2 = 9 - m ∧ m ≤ 9 ∧ ss = .string T ∧ sd = .int .u64 ((x / 10 ^ m : Nat) : Int) ∧ sk = .int .i64 (m : Int) ∧ T.size = 9 * k + m ∧ Hid (Dig T.data.toList) ∧ Hid (dv T.data.toList = x % 10 ^ m * 10 ^ (9 * k) + Dg.val (l.take k)) ∧ Hid (Gr w wr2))
      case atStart => exact ⟨0, S, rfl, by omega, rfl, by simp, rfl, by omega, HDG, Lib.hid (by rw [HDV.out]; simp [Nat.mod_one]), HG⟩
      case round =>
        obtain ⟨m, T, hg2, hm, rfl, rfl, rfl, hT, HTG, HTV, HG2⟩ := hrel
        have HGM := Lib.hid hg2
        clear hg2
        by_cases hm9 : m < 9
        · have b2 : decide ((m : Int) < 9) = true := decide_eq_true (by omega)
          have b2n : decide (m < 9) = true := decide_eq_true hm9
          have hz9 : x / 10 ^ m < 1000000000 := Nat.lt_of_le_of_lt (Nat.div_le_self _ _) hx9
          have hzn : x / 10 ^ (m + 1) = x / 10 ^ m / 10 := by rw [Nat.pow_succ, Nat.div_div_eq_div_mul]
          generalize hz : x / 10 ^ m = z at hz9 hzn ⊢
          have HZ := Lib.hid hz
          have HZN := Lib.hid hzn
          clear hz hzn
          obtain ⟨c', hc⟩ : ∃ c' : UInt8, c'.toNat = 48 + z % 10 := ⟨UInt8.ofNat (48 + z % 10), by rw [UInt8.toNat_ofNat']; omega⟩
          have ec : (48 : Int) + (z : Int) % 10 = (c'.toNat : Int) := by omega
          have hcv := one_byte wr c' 159 5 (by kernel_rfl) (by kernel_rfl) 9 (by kernel_rfl) 5
          have HC := Lib.hid hc
          clear hc
          go_wp2
          go_roundg (9 - (m + 1))
          case measure => have := HGM.out; omega
          case rel => exact ⟨m + 1, (⟨#[c']⟩ : ByteArray) ++ T, rfl, by omega, rfl, by rw [HZN.out]; first | rfl | go_num, by go_num, by rw [ByteArray.size_append, hT]; show 1 + _ = _; omega,
            Lib.hid (by rw [byte_cons]; exact dig_cons c' _ z HC.out HTG.out),
            Lib.hid (by rw [byte_cons]; exact text_step _ c' x k m _ (by rw [HC.out, HZ.out]) (by rw [← Lib.size_eq]; exact hT) HTV.out),
            Lib.hid (HG2.out.alloc HG2.out.size _)⟩
        · have hme : m = 9 := by omega
          subst hme
          have b2 : decide ((9 : Int) < 9) = false := by decide
          have HNV := Lib.hid (text_group l k hlt HLM.out T.data.toList (by rw [HXX.out]; exact HTV.out))
          generalize x / 10 ^ 9 = z
          go_wp2
          go_roundg (l.length - (k + 1))
          case measure => have := HGG.out; omega
          case rel => exact ⟨k + 1, T, rfl, by omega, rfl, by go_num, by omega, HTG, HNV, HG2⟩
    · have hke : k = l.length := by omega
      subst hke
      have b1 : decide ((l.length : Int) < (l.length : Int)) = false := decide_eq_false (by omega)
      have b1n : decide (l.length < l.length) = false := decide_eq_false (by omega)
      have HDN := Lib.hid (show dv S.data.toList = n by rw [HDV.out, List.take_of_length_le (Nat.le_refl _)]; exact HVL.out)
      have hSs : S.size ≤ 4500 := by omega
      clear hS
      go_wp2
      go_loopg [3] S.size (fun g3 ss wr3 => ∃ T : ByteArray, g3 = T.size ∧ ss = .string T ∧ T.size ≤ 4500 ∧ Hid (Dig T.data.toList) ∧ Hid (dv T.data.toList = n) ∧ wr = wr3)
      case atStart => exact ⟨S, rfl, rfl, hSs, HDG, HDN, rfl⟩
      case round =>
        obtain ⟨T, hg3, rfl, hT, HTG, HTV, rfl⟩ := hrel
        have HG3 := Lib.hid hg3
        clear hg3
        have hTL : T.data.toList.length = T.size := (Lib.size_eq T).symm
        by_cases h1 : 1 < T.size
        · have b2 : decide ((1 : Int) < (T.size : Int)) = true := decide_eq_true (by omega)
          have b2n : decide (1 < T.size) = true := decide_eq_true h1
          have hpos : 0 < T.size := by omega
          have HAL := Lib.hid (at_list T 0 hpos (by omega))
          have HCO := Lib.hid (show T.data.toList = T.data.toList[0]'(by omega) :: T.data.toList.drop 1 by
            rw [← List.drop_eq_getElem_cons (by omega : 0 < T.data.toList.length), List.drop_zero])
          by_cases h48 : (T[0]'hpos).toNat = 48
          · have b3 : (((T[0]'hpos).toNat : Int) == 48) = true := beq_iff_eq.2 (by omega)
            have hex := (piece T 1 (by omega)).2
            have HEX := Lib.hid hex
            have HNV := Lib.hid (show dv (T.data.toList.drop 1) = n by
              have := HTV.out
              rw [HCO.out, dv_strip _ _ (by rw [HAL.out]; exact h48)] at this
              exact this)
            have HND := Lib.hid (show Dig (T.data.toList.drop 1) from fun c hc => HTG.out c (List.mem_of_mem_drop hc))
            clear hex h48
            go_wp2
            go_roundg (T.size - 1)
            case measure => have := HG3.out; omega
            case rel => exact ⟨T.extract 1 T.size, HEX.out.2.symm, by first | rfl | simp, by rw [HEX.out.2]; omega, Lib.hid (by rw [HEX.out.1]; exact HND.out), Lib.hid (by rw [HEX.out.1]; exact HNV.out), rfl⟩
          · have b3 : (((T[0]'hpos).toNat : Int) == 48) = false := beq_eq_false_iff_ne.2 (by omega)
            have e1 : T.toList.isEmpty = false := by
              rw [ByteArray.toList_eq, HCO.out]; rfl
            have HF := Lib.hid (digits_of T.data.toList n HTV.out HTG.out (by rw [HCO.out]; simp) (.inr (by
              rw [HCO.out, List.head?_cons, HAL.out]
              intro h
              injection h with h
              rw [h] at h48
              exact h48 rfl)))
            clear h48
            go_wp2
            go_ret
            exact ⟨ret_str (by rw [HF.out]), HG.out⟩
        · have b2 : decide ((1 : Int) < (T.size : Int)) = false := decide_eq_false (by omega)
          have b2n : decide (1 < T.size) = false := decide_eq_false h1
          by_cases h0 : T.size = 0
          · have hnil : T.data.toList = [] := List.eq_nil_of_length_eq_zero (by omega)
            have e1 : T.toList.isEmpty = true := by rw [ByteArray.toList_eq, hnil]; rfl
            have HF := Lib.hid (show n = 0 by have := HTV.out; rw [hnil] at this; exact this.symm)
            clear hnil
            go_wp2
            go_ret
            exact ⟨ret_str (by rw [HF.out, Lib.decDigits_one (by decide)]; rfl), HG.out⟩
          · have hl1 : T.data.toList.length = 1 := by omega
            have hne : T.data.toList ≠ [] := by intro h; rw [h] at hl1; simp at hl1
            have e1 : T.toList.isEmpty = false := by
              rw [ByteArray.toList_eq]
              cases h : T.data.toList with
              | nil => exact absurd h hne
              | cons a l => rfl
            have HF := Lib.hid (digits_of T.data.toList n HTV.out HTG.out hne (.inl hl1))
            clear hl1 hne
            go_wp2
            go_ret
            exact ⟨ret_str (by rw [HF.out]), HG.out⟩
end Go.Proofs.YtglbdafcfcmffaaGreatDoor
