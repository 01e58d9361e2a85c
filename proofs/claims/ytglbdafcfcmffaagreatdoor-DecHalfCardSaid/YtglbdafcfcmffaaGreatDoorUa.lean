/- Layer 2's laws: Digits, N by contract. -/
import Derived.Test.YtglbdafcfcmffaaGreatDoorQu
namespace Go.Proofs.YtglbdafcfcmffaaGreatDoor
open Go.RowKit Go.Extern.Stop Go.Stop Go.Extern Go.Sort
set_option linter.unusedVariables false
set_option linter.unusedSimpArgs false

theorem one_piece (s : ByteArray) (i : Nat) (h : i < s.size) : (s.extract i (i + 1)).data.toList = [s[i]'h] := by
  have hl : i < s.data.toList.length := by rw [← Lib.size_eq]; exact h
  rw [← ByteArray.toList_eq, Lib.extract_toList, show i + 1 - i = 1 by omega, List.drop_eq_getElem_cons hl, List.take_succ_cons, List.take_zero, at_list s i h hl]
theorem grown_digits (T s : ByteArray) (i : Nat) (h : i < s.size) : (T ++ s.extract i (i + 1)).data.toList = T.data.toList ++ [s[i]'h] ∧ (T ++ s.extract i (i + 1)).size = T.size + 1 := by
  have e : (T ++ s.extract i (i + 1)).data.toList = T.data.toList ++ [s[i]'h] := by
    rw [ByteArray.data_append, Array.toList_append, one_piece s i h]
  refine ⟨e, ?_⟩
  rw [Lib.size_eq, e, List.length_append, List.length_singleton, ← Lib.size_eq]
/-- Digits so far: no nought ahead. -/
def Dgt (T : ByteArray) : Prop := Dig T.data.toList ∧ (T.size = 0 ∨ ∀ h : 0 < T.size, (T[0]'h).toNat ≠ 48)
theorem Dgt.nil : Dgt ⟨#[]⟩ := ⟨fun c hc => (by cases hc), .inl rfl⟩
theorem Dgt.more {T s : ByteArray} {i : Nat} (h : Dgt T) (hi : i < s.size) (h0 : 48 ≤ (s[i]'hi).toNat) (h9 : (s[i]'hi).toNat ≤ 57) (hz : T.size = 0 → (s[i]'hi).toNat ≠ 48) : Dgt (T ++ s.extract i (i + 1)) := by
  obtain ⟨e1, e2⟩ := grown_digits T s i hi
  refine ⟨fun c hc => ?_, .inr fun hp => ?_⟩
  · rw [e1] at hc
    rcases List.mem_append.1 hc with hc | hc
    · exact h.1 c hc
    · rw [List.mem_singleton.1 hc]; exact ⟨h0, h9⟩
  · have hl : 0 < (T ++ s.extract i (i + 1)).data.toList.length := by rw [← Lib.size_eq]; exact hp
    rw [← at_list _ 0 hp hl]
    have e3 : (T ++ s.extract i (i + 1)).data.toList[0]'hl = (T.data.toList ++ [s[i]'hi])[0]'(by rw [← e1]; exact hl) := by
      simp only [e1]
    rw [e3]
    by_cases hT : T.size = 0
    · have hn : T.data.toList = [] := List.eq_nil_of_length_eq_zero (by rw [← Lib.size_eq]; exact hT)
      simp only [hn]
      exact hz hT
    · have hT2 : 0 < T.data.toList.length := by rw [← Lib.size_eq]; omega
      rw [List.getElem_append_left hT2, at_list T 0 (by omega) hT2]
      exact (h.2.resolve_left hT) (by omega)
theorem Dgt.num {T : ByteArray} (h : Dgt T) (h1 : T.size ≠ 0) (h2 : T.size ≤ 4000) : NumT T := ⟨by omega, h2, .inr (h.2.resolve_left h1), h.1⟩
theorem numT_zero : NumT ⟨#[48]⟩ := ⟨by decide, by decide, .inl rfl, fun c hc => by
  have : c = 48 := by simpa using hc
  subst this; decide⟩

set_option maxRecDepth 100000 in
set_option maxHeartbeats 8000000 in
/-- Digits. -/
theorem digits_calls (s : ByteArray) (N : Nat) (h1 : 1 ≤ N) (h2 : N ≤ 1000) (hs : s.size ≤ 9223372036854775807) (w : World) :
    Calls Tryz.prog 60 #[.string s, .int .i64 (N : Int)] w fun e w' => (∃ T : ByteArray, e = .returned (.string T) ∧ NumT T ∧ T.size ≤ N) ∧ w = w' := by
  go_enter Tryz.func60, Tryz.ntmps60
  go_wp2
  go_loopg [5, 6] s.size (fun g st si wr => ∃ (i : Nat) (T : ByteArray), g = s.size - i ∧ i ≤ s.size ∧ st = .string T ∧ si = .int .i64 (i : Int) ∧ T.size ≤ N ∧ Hid (Dgt T) ∧ w = wr)
  case atStart => exact ⟨0, ⟨#[]⟩, rfl, Nat.zero_le _, rfl, rfl, Nat.zero_le _, Lib.hid Dgt.nil, rfl⟩
  case round =>
    obtain ⟨i, T, hg, hi, rfl, rfl, hTN, HT, rfl⟩ := hrel
    have HG := Lib.hid hg
    clear hg
    by_cases hgo : i < s.size ∧ T.size < N
    · obtain ⟨hi2, hT2⟩ := hgo
      have b1 : decide ((i : Int) < (s.size : Int)) = true := decide_eq_true (by omega)
      have b1n : decide (i < s.size) = true := decide_eq_true hi2
      have b2 : decide ((T.size : Int) < (N : Int)) = true := decide_eq_true (by omega)
      have b2n : decide (T.size < N) = true := decide_eq_true hT2
      have HM := Lib.hid (fun a b c => HT.out.more hi2 a b c)
      have hsz := (grown_digits T s i hi2).2
      have hc0 : ((s[i]'hi2).toNat : Int) < 256 := by have := (s[i]'hi2).toNat_lt; omega
      by_cases c1 : 48 ≤ ((s[i]'hi2).toNat : Int)
      · have b3 : decide (48 ≤ ((s[i]'hi2).toNat : Int)) = true := decide_eq_true c1
        by_cases c2 : ((s[i]'hi2).toNat : Int) ≤ 57
        · have b4 : decide (((s[i]'hi2).toNat : Int) ≤ 57) = true := decide_eq_true c2
          by_cases hT0 : T.size = 0
          · have hTn : T.data.toList = [] := List.eq_nil_of_length_eq_zero (by rw [← Lib.size_eq]; exact hT0)
            have e1 : T.toList.isEmpty = true := by rw [ByteArray.toList_eq, hTn]; rfl
            clear hTn
            by_cases c3 : ((s[i]'hi2).toNat : Int) = 48
            · have b5 : (((s[i]'hi2).toNat : Int) != 48) = false := by rw [c3]; rfl
              go_wp2
              go_roundg (s.size - (i + 1))
              case measure => have := HG.out; omega
              case rel => exact ⟨i + 1, T, rfl, by omega, rfl, by first | rfl | go_num, hTN, HT, rfl⟩
            · have b5 : (((s[i]'hi2).toNat : Int) != 48) = true := bne_iff_ne.2 c3
              go_wp2
              go_roundg (s.size - (i + 1))
              case measure => have := HG.out; omega
              case rel => exact ⟨i + 1, T ++ s.extract i (i + 1), rfl, by omega, by first | rfl | simp, by first | rfl | go_num, by omega, Lib.hid (HM.out (by omega) (by omega) (fun _ => by omega)), rfl⟩
          · have e1 : T.toList.isEmpty = false := by
              rw [ByteArray.toList_eq]
              cases h : T.data.toList with
              | nil => exact absurd (by rw [Lib.size_eq, h]; rfl) hT0
              | cons a l => rfl
            go_wp2
            go_roundg (s.size - (i + 1))
            case measure => have := HG.out; omega
            case rel => exact ⟨i + 1, T ++ s.extract i (i + 1), rfl, by omega, by first | rfl | simp, by first | rfl | go_num, by omega, Lib.hid (HM.out (by omega) (by omega) (fun h => absurd h hT0)), rfl⟩
        · have b4 : decide (((s[i]'hi2).toNat : Int) ≤ 57) = false := decide_eq_false c2
          go_wp2
          go_roundg (s.size - (i + 1))
          case measure => have := HG.out; omega
          case rel => exact ⟨i + 1, T, rfl, by omega, rfl, by first | rfl | go_num, hTN, HT, rfl⟩
      · have b3 : decide (48 ≤ ((s[i]'hi2).toNat : Int)) = false := decide_eq_false c1
        go_wp2
        go_roundg (s.size - (i + 1))
        case measure => have := HG.out; omega
        case rel => exact ⟨i + 1, T, rfl, by omega, rfl, by first | rfl | go_num, hTN, HT, rfl⟩
    · have b12 : (decide ((i : Int) < (s.size : Int)) = false ∧ decide (i < s.size) = false) ∨ (decide ((i : Int) < (s.size : Int)) = true ∧ decide (i < s.size) = true ∧ decide ((T.size : Int) < (N : Int)) = false ∧ decide (T.size < N) = false) := by
        by_cases h : i < s.size
        · exact .inr ⟨decide_eq_true (by omega), decide_eq_true h, decide_eq_false (by omega), decide_eq_false (by omega)⟩
        · exact .inl ⟨decide_eq_false (by omega), decide_eq_false h⟩
      by_cases hT0 : T.size = 0
      · have hTn : T.data.toList = [] := List.eq_nil_of_length_eq_zero (by rw [← Lib.size_eq]; exact hT0)
        have e1 : T.toList.isEmpty = true := by rw [ByteArray.toList_eq, hTn]; rfl
        have b1 : decide ((i : Int) < (s.size : Int)) = false := decide_eq_false (by omega)
        have b1n : decide (i < s.size) = false := decide_eq_false (by omega)
        clear hTn b12
        go_wp2
        go_ret
        exact ⟨⟨_, rfl, numT_zero, h1⟩, rfl⟩
      · have e1 : T.toList.isEmpty = false := by
          rw [ByteArray.toList_eq]
          cases h : T.data.toList with
          | nil => exact absurd (by rw [Lib.size_eq, h]; rfl) hT0
          | cons a l => rfl
        have HN := Lib.hid (HT.out.num hT0 (by omega))
        rcases b12 with ⟨b1, b1n⟩ | ⟨b1, b1n, b2, b2n⟩
        all_goals
          go_wp2
          go_ret
          exact ⟨⟨_, rfl, HN.out, hTN⟩, rfl⟩

theorem num_bd (T : ByteArray) (h : NumT T) (k : Nat) (hk : T.size ≤ 9 * k) : dv T.data.toList < Dg.D ^ k := by
  have h1 := dv_lt _ h.2.2.2
  have h2 : T.data.toList.length ≤ 9 * k := by rw [← Lib.size_eq]; exact hk
  exact Nat.lt_of_lt_of_le h1 (Nat.le_trans (Nat.pow_le_pow_right (by decide) h2) (Nat.le_of_eq (D_pow k).symm))
theorem D_le_B (k : Nat) : Dg.D ^ k ≤ B ^ k := Nat.pow_le_pow_left (by decide) k

set_option maxRecDepth 100000 in
set_option maxHeartbeats 2000000 in
/-- N. -/
theorem n_calls (s : ByteArray) (hs : s.size ≤ 9223372036854775807) (w : World) :
    Calls Tryz.prog 64 #[.string s] w fun e w' => (∃ (v x : Value) (n : Nat), e = .returned (.tuple #[v, x]) ∧ NatP w' v n ∧ RN w' x n ∧ n < Dg.D ^ 14) ∧ Gr w w' := by
  have HD : Hid (Calls Tryz.prog 60 #[.string s, .int .i64 120] w fun e w' => (∃ T : ByteArray, e = .returned (.string T) ∧ NumT T ∧ T.size ≤ 120) ∧ w = w') := Lib.hid (digits_calls s 120 (by decide) (by decide) hs w)
  go_enter Tryz.func64, Tryz.ntmps64
  go_wp2_with (go_at_call 60; (with_reducible refine HD.out.mono ?_); rintro ev w1 ⟨⟨T, rfl, hT, hTs⟩, rfl⟩)
  have HT := Lib.hid hT
  have HA := Lib.hid (natGet_calls T w (by omega))
  clear hT
  go_wp2_with (go_at_call 107; (with_reducible refine HA.out.mono ?_); rintro ev w2 ⟨⟨hr, _⟩, hg2⟩; obtain ⟨r2, rfl, hr2⟩ := hr HT.out; have HR2 := Lib.hid hr2; clear hr hr2)
  have HB := Lib.hid (rgetN_calls T w2)
  go_wp2_with (go_at_call 72; (with_reducible refine HB.out.mono ?_); rintro ev w3 ⟨⟨hr, _⟩, hg3⟩; obtain ⟨r3, rfl, hr3⟩ := hr HT.out; have HR3 := Lib.hid hr3; clear hr hr3)
  go_ret2
  exact ⟨⟨_, _, _, rfl, HR2.out.gr hg3, HR3.out, num_bd T HT.out 14 (by omega)⟩, hg2.tr hg3⟩
end Go.Proofs.YtglbdafcfcmffaaGreatDoor
