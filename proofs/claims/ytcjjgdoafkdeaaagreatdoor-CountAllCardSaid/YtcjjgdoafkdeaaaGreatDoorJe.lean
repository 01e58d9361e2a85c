/- Layer 1: a text cut; Layer 2: which texts are numbers; nat.Get of whatever text; Layer 2's laws: Digits, N by contract; Layer 2's laws: the program's contracts at numbers bounded by digits of a thousand million; Layer 2's laws: the reference's contracts at bounded numbers. -/
import Derived.Test.YtcjjgdoafkdeaaaGreatDoorGb
import Derived.Test.YtcjjgdoafkdeaaaGreatDoorQk
import Derived.Test.YtcjjgdoafkdeaaaGreatDoorJa
import Derived.Test.YtcjjgdoafkdeaaaGreatDoorJc
import Derived.Test.YtcjjgdoafkdeaaaGreatDoorGh
import Derived.Test.YtcjjgdoafkdeaaaGreatDoorGq
import Derived.Test.YtcjjgdoafkdeaaaGreatDoorJd
namespace Go.Proofs.YtcjjgdoafkdeaaaGreatDoor
section
open Go.RowKit Go.Extern.Stop Go.Stop Go.Extern
set_option linter.unusedVariables false
set_option linter.unusedSimpArgs false

theorem text_calls (s : ByteArray) (k : Int) (hk : 0 ≤ k) (hk2 : k ≤ 1000000) (hs : s.size ≤ 9223372036854775807) (w : World) :
    Calls Tryz.prog 16 #[.string s, .int .i64 k] w fun e w' => e = .returned (.string (s.extract 0 (min s.size k.toNat))) ∧ w = w' := by
  go_enter Tryz.func16, Tryz.ntmps16
  go_wp2
  go_ret
  exact ⟨ret_str (by rw [show (min (s.size : Int) k).toNat = min s.size k.toNat by omega]), rfl⟩
end
section
open Go.RowKit Go.Extern.Stop Go.Stop Go.Extern Go.Sort
set_option linter.unusedVariables false
set_option linter.unusedSimpArgs false

/-- A text that is a number is that number's numeral. -/
theorem numT_own (s : ByteArray) (h : NumT s) : Lib.decDigits (dv s.data.toList) = s.data.toList := by
  obtain ⟨h1, h2, h3, h4⟩ := h
  have hl : s.data.toList.length = s.size := (Lib.size_eq s).symm
  refine digits_of _ _ rfl h4 (by intro e; rw [e] at hl; simp at hl; omega) ?_
  rcases h3 with h3 | h3
  · exact .inl (by omega)
  · refine .inr fun e => ?_
    have h5 := h3 h1
    have h6 := at_list s 0 h1 (by omega)
    rw [List.head?_eq_getElem?, List.getElem?_eq_getElem (by omega)] at e
    injection e with e
    rw [← h6, e] at h5
    exact h5 rfl
theorem bytes_own (s : ByteArray) : (⟨s.data.toList.toArray⟩ : ByteArray) = s := by
  cases s; simp
theorem numT_bad (s : ByteArray) (h : ¬ NumT s) : s.size = 0 ∨ 4000 < s.size ∨ (1 < s.size ∧ ∀ h : 0 < s.size, (s[0]'h).toNat = 48) ∨ ¬ Dig s.data.toList := by
  by_cases c1 : s.size = 0
  · exact .inl c1
  · by_cases c2 : 4000 < s.size
    · exact .inr (.inl c2)
    · by_cases c3 : Dig s.data.toList
      · refine .inr (.inr (.inl ⟨?_, fun hp => ?_⟩))
        · by_cases c4 : s.size = 1
          · exact absurd ⟨by omega, by omega, .inl c4, c3⟩ h
          · omega
        · by_cases c5 : (s[0]'hp).toNat = 48
          · exact c5
          · exact absurd ⟨hp, by omega, .inr fun _ => c5, c3⟩ h
      · exact .inr (.inr (.inr c3))
theorem numT_numeral (k : Nat) (h : k < 18446744073709551616) : NumT ⟨(Lib.decDigits k).toArray⟩ ∧ dv (⟨(Lib.decDigits k).toArray⟩ : ByteArray).data.toList = k := by
  obtain ⟨h1, h2, h3, h4⟩ := numeral k
  have hl : (⟨(Lib.decDigits k).toArray⟩ : ByteArray).size = (Lib.decDigits k).length := by rw [Lib.size_eq]
  have hlen : (Lib.decDigits k).length ≤ 20 := by
    rcases h4 with h4 | h4
    · omega
    · have h5 : 10 ^ ((Lib.decDigits k).length - 1) ≤ dv (Lib.decDigits k) := by
        cases hc : Lib.decDigits k with
        | nil => exact absurd hc h3
        | cons a l =>
          rw [hc] at h1 h4
          have ha := h1 a (by simp)
          rw [dv_cons, List.length_cons, Nat.add_sub_cancel]
          have : a.toNat ≠ 48 := fun e => h4 (by rw [List.head?_cons]; congr 1; exact UInt8.toNat_inj.1 e)
          have h6 : 1 * 10 ^ l.length ≤ (a.toNat - 48) * 10 ^ l.length := Nat.mul_le_mul_right _ (by omega)
          omega
      rw [h2] at h5
      by_cases hh : (Lib.decDigits k).length ≤ 20
      · exact hh
      · have h6 : 10 ^ 20 ≤ 10 ^ ((Lib.decDigits k).length - 1) := Nat.pow_le_pow_right (by decide) (by omega)
        have h7 : (10 : Nat) ^ 20 = 100000000000000000000 := by decide
        omega
  have hpos : 0 < (Lib.decDigits k).length := List.length_pos_iff.2 h3
  refine ⟨⟨by omega, by omega, ?_, h1⟩, h2⟩
  rcases h4 with h4 | h4
  · exact .inl (by omega)
  · refine .inr fun hp e => h4 ?_
    rw [← at_list _ 0 hp (by show 0 < (Lib.decDigits k).length; exact hpos)] at e
    rw [List.head?_eq_getElem?, List.getElem?_eq_getElem hpos]
    congr 1
    exact UInt8.toNat_inj.1 e
theorem dv_bd (s : ByteArray) (h : NumT s) : dv s.data.toList < B ^ 250 ∧ dv s.data.toList < Dg.D ^ 500 := by
  have h1 := dv_lt _ h.2.2.2
  have h2 : s.data.toList.length ≤ 4000 := by rw [← Lib.size_eq]; exact h.2.1
  exact ⟨Nat.lt_of_lt_of_le h1 (ten_pow_le _ 250 (by omega)), Nat.lt_of_lt_of_le h1 (Nat.le_trans (Nat.pow_le_pow_right (by decide) (show s.data.toList.length ≤ 9 * 500 by omega)) (Nat.le_of_eq (D_pow 500).symm))⟩
theorem small_bd (k : Nat) (h : k < 18446744073709551616) : k < Dg.D ^ 500 :=
  Nat.lt_of_lt_of_le (Nat.lt_trans h (show 18446744073709551616 < 10 ^ 20 by decide)) (Nat.le_trans (Nat.pow_le_pow_right (by decide) (show 20 ≤ 9 * 500 by omega)) (Nat.le_of_eq (D_pow 500).symm))
/-- nat.Get of whatever text. -/
theorem natGet_calls (s : ByteArray) (w : World) (hs : s.size ≤ 9223372036854775807) :
    Calls Tryz.prog 53 #[.string s] w fun e w' => ((NumT s → ∃ r, e = .returned (.tuple #[r, .nilIface]) ∧ NatP w' r (dv s.data.toList)) ∧ (¬ NumT s → e = .returned (.tuple #[.pointer none, .iface 169 (.int .i64 1)]))) ∧ Gr w w' := by
  by_cases h : NumT s
  · refine (get_nat_ok s w h.1 h.2.1 h.2.2.2 h.2.2.1).mono ?_
    rintro e w' ⟨h1, hg⟩
    exact ⟨⟨fun _ => h1, fun h2 => absurd h h2⟩, hg⟩
  · refine (get_nat_bad s w hs (numT_bad s h)).mono ?_
    rintro e w' ⟨h1, hg⟩
    exact ⟨⟨fun h2 => absurd h2 h, fun _ => h1⟩, hg⟩
end
section
open Go.RowKit Go.Extern.Stop Go.Stop Go.Extern Go.Sort
set_option linter.unusedVariables false
set_option linter.unusedSimpArgs false

theorem one_piece (s : ByteArray) (i : Nat) (h : i < s.size) : (s.extract i (i + 1)).data.toList = [s[i]'h] := by
  have hl : i < s.data.toList.length := by rw [← Lib.size_eq]; exact h
  rw [← ByteArray.toList_eq, Lib.extract_toList, show i + 1 - i = 1 by omega, List.drop_eq_getElem_cons hl, List.take_succ_cons, List.take_zero, at_list s i h hl]
theorem grown_digits (T s : ByteArray) (i : Nat) (h : i < s.size) : (T ++ s.extract i (i + 1)).data.toList = T.data.toList ++ [s[i]'h] ∧ (T ++ s.extract i (i + 1)).size = T.size + 1 := by
  have e : (T ++ s.extract i (i + 1)).data.toList = T.data.toList ++ [s[i]'h] := by
    rw [ByteArray.data_append, Array.toList_append, one_piece s i h]
  refine ⟨e, ?_⟩
  rw [Lib.size_eq, e, List.length_append, List.length_singleton, ← Lib.size_eq]
/-- Digits so far: no nought ahead. -/
def Dgt (T : ByteArray) : Prop := Dig T.data.toList ∧ (T.size = 0 ∨ ∀ h : 0 < T.size, (T[0]'h).toNat ≠ 48)
theorem Dgt.nil : Dgt ⟨#[]⟩ := ⟨fun c hc => (by cases hc), .inl rfl⟩
theorem Dgt.more {T s : ByteArray} {i : Nat} (h : Dgt T) (hi : i < s.size) (h0 : 48 ≤ (s[i]'hi).toNat) (h9 : (s[i]'hi).toNat ≤ 57) (hz : T.size = 0 → (s[i]'hi).toNat ≠ 48) : Dgt (T ++ s.extract i (i + 1)) := by
  obtain ⟨e1, e2⟩ := grown_digits T s i hi
  refine ⟨fun c hc => ?_, .inr fun hp => ?_⟩
  · rw [e1] at hc
    rcases List.mem_append.1 hc with hc | hc
    · exact h.1 c hc
    · rw [List.mem_singleton.1 hc]; exact ⟨h0, h9⟩
  · have hl : 0 < (T ++ s.extract i (i + 1)).data.toList.length := by rw [← Lib.size_eq]; exact hp
    rw [← at_list _ 0 hp hl]
    have e3 : (T ++ s.extract i (i + 1)).data.toList[0]'hl = (T.data.toList ++ [s[i]'hi])[0]'(by rw [← e1]; exact hl) := by
      simp only [e1]
    rw [e3]
    by_cases hT : T.size = 0
    · have hn : T.data.toList = [] := List.eq_nil_of_length_eq_zero (by rw [← Lib.size_eq]; exact hT)
      simp only [hn]
      exact hz hT
    · have hT2 : 0 < T.data.toList.length := by rw [← Lib.size_eq]; omega
      rw [List.getElem_append_left hT2, at_list T 0 (by omega) hT2]
      exact (h.2.resolve_left hT) (by omega)
theorem Dgt.num {T : ByteArray} (h : Dgt T) (h1 : T.size ≠ 0) (h2 : T.size ≤ 4000) : NumT T := ⟨by omega, h2, .inr (h.2.resolve_left h1), h.1⟩
theorem numT_zero : NumT ⟨#[48]⟩ := ⟨by decide, by decide, .inl rfl, fun c hc => by
  have : c = 48 := by simpa using hc
  subst this; decide⟩

set_option maxRecDepth 100000 in
set_option maxHeartbeats 8000000 in
/-- Digits. -/
theorem digits_calls (s : ByteArray) (N : Nat) (h1 : 1 ≤ N) (h2 : N ≤ 1000) (hs : s.size ≤ 9223372036854775807) (w : World) :
    Calls Tryz.prog 15 #[.string s, .int .i64 (N : Int)] w fun e w' => (∃ T : ByteArray, e = .returned (.string T) ∧ NumT T ∧ T.size ≤ N) ∧ w = w' := by
  go_enter Tryz.func15, Tryz.ntmps15
  go_wp2
  go_loopg [5, 6] s.size (fun g st si wr => ∃ (i : Nat) (T : ByteArray), g = s.size - i ∧ i ≤ s.size ∧ st = .string T ∧ si = .int .i64 (i : Int) ∧ T.size ≤ N ∧ Hid (Dgt T) ∧ w = wr)
  case atStart => exact ⟨0, ⟨#[]⟩, rfl, Nat.zero_le _, rfl, rfl, Nat.zero_le _, Lib.hid Dgt.nil, rfl⟩
  case round =>
    obtain ⟨i, T, hg, hi, rfl, rfl, hTN, HT, rfl⟩ := hrel
    have HG := Lib.hid hg
    clear hg
    by_cases hgo : i < s.size ∧ T.size < N
    · obtain ⟨hi2, hT2⟩ := hgo
      have b1 : decide ((i : Int) < (s.size : Int)) = true := decide_eq_true (by omega)
      have b1n : decide (i < s.size) = true := decide_eq_true hi2
      have b2 : decide ((T.size : Int) < (N : Int)) = true := decide_eq_true (by omega)
      have b2n : decide (T.size < N) = true := decide_eq_true hT2
      have HM := Lib.hid (fun a b c => HT.out.more hi2 a b c)
      have hsz := (grown_digits T s i hi2).2
      have hc0 : ((s[i]'hi2).toNat : Int) < 256 := by have := (s[i]'hi2).toNat_lt; omega
      by_cases c1 : 48 ≤ ((s[i]'hi2).toNat : Int)
      · have b3 : decide (48 ≤ ((s[i]'hi2).toNat : Int)) = true := decide_eq_true c1
        by_cases c2 : ((s[i]'hi2).toNat : Int) ≤ 57
        · have b4 : decide (((s[i]'hi2).toNat : Int) ≤ 57) = true := decide_eq_true c2
          by_cases hT0 : T.size = 0
          · have hTn : T.data.toList = [] := List.eq_nil_of_length_eq_zero (by rw [← Lib.size_eq]; exact hT0)
            have e1 : T.toList.isEmpty = true := by rw [ByteArray.toList_eq, hTn]; rfl
            clear hTn
            by_cases c3 : ((s[i]'hi2).toNat : Int) = 48
            · have b5 : (((s[i]'hi2).toNat : Int) != 48) = false := by rw [c3]; rfl
              go_wp2
              go_roundg (s.size - (i + 1))
              case measure => have := HG.out; omega
              case rel => exact ⟨i + 1, T, rfl, by omega, rfl, by first | rfl | go_num, hTN, HT, rfl⟩
            · have b5 : (((s[i]'hi2).toNat : Int) != 48) = true := bne_iff_ne.2 c3
              go_wp2
              go_roundg (s.size - (i + 1))
              case measure => have := HG.out; omega
              case rel => exact ⟨i + 1, T ++ s.extract i (i + 1), rfl, by omega, by first | rfl | simp, by first | rfl | go_num, by omega, Lib.hid (HM.out (by omega) (by omega) (fun _ => by omega)), rfl⟩
          · have e1 : T.toList.isEmpty = false := by
              rw [ByteArray.toList_eq]
              cases h : T.data.toList with
              | nil => exact absurd (by rw [Lib.size_eq, h]; rfl) hT0
              | cons a l => rfl
            go_wp2
            go_roundg (s.size - (i + 1))
            case measure => have := HG.out; omega
            case rel => exact ⟨i + 1, T ++ s.extract i (i + 1), rfl, by omega, by first | rfl | simp, by first | rfl | go_num, by omega, Lib.hid (HM.out (by omega) (by omega) (fun h => absurd h hT0)), rfl⟩
        · have b4 : decide (((s[i]'hi2).toNat : Int) ≤ 57) = false := decide_eq_false c2
          go_wp2
          go_roundg (s.size - (i + 1))
          case measure => have := HG.out; omega
          case rel => exact ⟨i + 1, T, rfl, by omega, rfl, by first | rfl | go_num, hTN, HT, rfl⟩
      · have b3 : decide (48 ≤ ((s[i]'hi2).toNat : Int)) = false := decide_eq_false c1
        go_wp2
        go_roundg (s.size - (i + 1))
        case measure => have := HG.out; omega
        case rel => exact ⟨i + 1, T, rfl, by omega, rfl, by first | rfl | go_num, hTN, HT, rfl⟩
    · have b12 : (decide ((i : Int) < (s.size : Int)) = false ∧ decide (i < s.size) = false) ∨ (decide ((i : Int) < (s.size : Int)) = true ∧ decide (i < s.size) = true ∧ decide ((T.size : Int) < (N : Int)) = false ∧ decide (T.size < N) = false) := by
        by_cases h : i < s.size
        · exact .inr ⟨decide_eq_true (by omega), decide_eq_true h, decide_eq_false (by omega), decide_eq_false (by omega)⟩
        · exact .inl ⟨decide_eq_false (by omega), decide_eq_false h⟩
      by_cases hT0 : T.size = 0
      · have hTn : T.data.toList = [] := List.eq_nil_of_length_eq_zero (by rw [← Lib.size_eq]; exact hT0)
        have e1 : T.toList.isEmpty = true := by rw [ByteArray.toList_eq, hTn]; rfl
        have b1 : decide ((i : Int) < (s.size : Int)) = false := decide_eq_false (by omega)
        have b1n : decide (i < s.size) = false := decide_eq_false (by omega)
        clear hTn b12
        go_wp2
        go_ret
        exact ⟨⟨_, rfl, numT_zero, h1⟩, rfl⟩
      · have e1 : T.toList.isEmpty = false := by
          rw [ByteArray.toList_eq]
          cases h : T.data.toList with
          | nil => exact absurd (by rw [Lib.size_eq, h]; rfl) hT0
          | cons a l => rfl
        have HN := Lib.hid (HT.out.num hT0 (by omega))
        rcases b12 with ⟨b1, b1n⟩ | ⟨b1, b1n, b2, b2n⟩
        all_goals
          go_wp2
          go_ret
          exact ⟨⟨_, rfl, HN.out, hTN⟩, rfl⟩

theorem num_bd (T : ByteArray) (h : NumT T) (k : Nat) (hk : T.size ≤ 9 * k) : dv T.data.toList < Dg.D ^ k := by
  have h1 := dv_lt _ h.2.2.2
  have h2 : T.data.toList.length ≤ 9 * k := by rw [← Lib.size_eq]; exact hk
  exact Nat.lt_of_lt_of_le h1 (Nat.le_trans (Nat.pow_le_pow_right (by decide) h2) (Nat.le_of_eq (D_pow k).symm))
theorem D_le_B (k : Nat) : Dg.D ^ k ≤ B ^ k := Nat.pow_le_pow_left (by decide) k
end
section
open Go.RowKit Go.Extern.Stop Go.Stop Go.Extern Go.Sort
set_option linter.unusedVariables false
set_option linter.unusedSimpArgs false

theorem b_up {a k m : Nat} (h : a < Dg.D ^ k) (hk : k ≤ m) : a < Dg.D ^ m := Nat.lt_of_lt_of_le h (Nat.pow_le_pow_right Dg.D_pos hk)
theorem b_B {a k : Nat} (h : a < Dg.D ^ k) : a < B ^ k := Nat.lt_of_lt_of_le h (D_le_B k)
theorem b_add {a b k m : Nat} (h : a < Dg.D ^ k) (h' : b < Dg.D ^ k) (hm : k + 1 = m) : a + b < Dg.D ^ m := by
  subst hm
  rw [Nat.pow_succ]
  have : Dg.D ^ k * 2 ≤ Dg.D ^ k * Dg.D := Nat.mul_le_mul_left _ (by decide)
  omega
theorem b_mul {a b j k m : Nat} (h : a < Dg.D ^ j) (h' : b < Dg.D ^ k) (hm : j + k = m) : a * b < Dg.D ^ m := by
  subst hm
  rw [Nat.pow_add]
  exact Nat.mul_lt_mul'' h h'
theorem b_sub {a b k : Nat} (h : a < Dg.D ^ k) : a - b < Dg.D ^ k := by omega
theorem b_div {a b k : Nat} (h : a < Dg.D ^ k) : a / b < Dg.D ^ k := Nat.lt_of_le_of_lt (Nat.div_le_self _ _) h
theorem b_mod {a b k : Nat} (h : a < Dg.D ^ k) : a % b < Dg.D ^ k := Nat.lt_of_le_of_lt (Nat.mod_le _ _) h
theorem b_gcd {a b k : Nat} (h : a < Dg.D ^ k) (h' : b < Dg.D ^ k) : Nat.gcd a b < Dg.D ^ k := by
  rcases Nat.eq_zero_or_pos a with rfl | ha
  · rw [Nat.gcd_zero_left]; exact h'
  · exact Nat.lt_of_le_of_lt (Nat.gcd_le_left b ha) h
theorem b_one {k : Nat} (hk : 1 ≤ k) : 1 < Dg.D ^ k := Nat.one_lt_pow (by omega) (by decide)
theorem b_zero {k : Nat} : 0 < Dg.D ^ k := Nat.pow_pos Dg.D_pos
theorem b_u64 {x : Nat} (h : x < B) : x < Dg.D ^ 3 := Nat.lt_trans h (by decide)
theorem b_pow {a K k m : Nat} (h : a < Dg.D ^ k) (hK : K ≠ 0) (hm : k * K = m) : a ^ K < Dg.D ^ m := by
  subst hm
  rw [Nat.pow_mul]
  exact Nat.pow_lt_pow_left h hK
theorem cmp_same {a b : Nat} (h : a = b) : cmpN a b = 0 := by rw [h]; exact cmpN_eq b

theorem c_of (x : Nat) (hx : x < B) (w : World) : Calls Tryz.prog 54 #[.int .u64 (x : Int)] w fun e w' => (∃ r, e = .returned r ∧ NatP w' r x) ∧ Gr w w' := of_nat_calls x hx w
theorem c_add {x y : Value} {a b : Nat} {w : World} (hx : NatAt w x a) (hy : NatAt w y b) {k : Nat} (ha : a < Dg.D ^ k) (hb : b < Dg.D ^ k) (hk : k ≤ 1000) :
    Calls Tryz.prog 59 #[x, y] w fun e w' => (∃ r, e = .returned r ∧ NatP w' r (a + b)) ∧ Gr w w' := add_calls x y a b w hx hy k (b_B ha) (b_B hb) (by omega)
theorem c_mul {x y : Value} {a b : Nat} {w : World} (hx : NatAt w x a) (hy : NatAt w y b) {k : Nat} (ha : a < Dg.D ^ k) (hb : b < Dg.D ^ k) (hk : k ≤ 1000) :
    Calls Tryz.prog 58 #[x, y] w fun e w' => (∃ r, e = .returned r ∧ NatP w' r (a * b)) ∧ Gr w w' := mul_calls x y a b w hx hy k (b_B ha) (b_B hb) (by omega)
theorem c_sub {x y : Value} {a b : Nat} {w : World} (hx : NatAt w x a) (hy : NatAt w y b) {k : Nat} (ha : a < Dg.D ^ k) (hb : b < Dg.D ^ k) (hk : k ≤ 1000) (hle : b ≤ a) :
    Calls Tryz.prog 148 #[x, y] w fun e w' => (∃ r, e = .returned (.tuple #[r, .nilIface]) ∧ NatP w' r (a - b)) ∧ Gr w w' :=
  (sub_calls x y a b w hx hy k (b_B ha) (b_B hb) (by omega)).mono fun _ _ h => ⟨h.1.2 hle, h.2⟩
theorem c_sub_no {x y : Value} {a b : Nat} {w : World} (hx : NatAt w x a) (hy : NatAt w y b) {k : Nat} (ha : a < Dg.D ^ k) (hb : b < Dg.D ^ k) (hk : k ≤ 1000) (hlt : a < b) :
    Calls Tryz.prog 148 #[x, y] w fun e w' => e = .returned (.tuple #[.pointer none, .iface 169 (.int .i64 2)]) ∧ Gr w w' :=
  (sub_calls x y a b w hx hy k (b_B ha) (b_B hb) (by omega)).mono fun _ _ h => ⟨h.1.1 hlt, h.2⟩
theorem c_div {x y : Value} {a b : Nat} {w : World} (hx : NatAt w x a) (hy : NatAt w y b) {k : Nat} (ha : a < Dg.D ^ k) (hb : b < Dg.D ^ k) (hk : k ≤ 1000) (hb0 : 0 < b) :
    Calls Tryz.prog 55 #[x, y] w fun e w' => (∃ q r, e = .returned (.tuple #[q, r, .nilIface]) ∧ NatP w' q (a / b) ∧ NatP w' r (a % b)) ∧ Gr w w' :=
  (div_calls x y a b w hx hy k (b_B ha) (b_B hb) (by omega)).mono fun _ _ h => ⟨h.1.2 hb0, h.2⟩
theorem c_div_no {x y : Value} {a b : Nat} {w : World} (hx : NatAt w x a) (hy : NatAt w y b) {k : Nat} (ha : a < Dg.D ^ k) (hb : b < Dg.D ^ k) (hk : k ≤ 1000) (hb0 : b = 0) :
    Calls Tryz.prog 55 #[x, y] w fun e w' => e = .returned (.tuple #[.pointer none, .pointer none, .iface 169 (.int .i64 3)]) ∧ Gr w w' :=
  (div_calls x y a b w hx hy k (b_B ha) (b_B hb) (by omega)).mono fun _ _ h => ⟨h.1.1 hb0, h.2⟩
theorem c_gcd {x y : Value} {a b : Nat} {w : World} (hT : BitTab w) (hx : NatAt w x a) (hy : NatAt w y b) {k : Nat} (ha : a < Dg.D ^ k) (hb : b < Dg.D ^ k) (hk : k ≤ 1000) :
    Calls Tryz.prog 132 #[x, y] w fun e w' => (∃ r, e = .returned r ∧ NatAt w' r (Nat.gcd a b)) ∧ Gr w w' := gcd_calls x y a b w hT hx hy k (b_B ha) (b_B hb) (by omega)
theorem c_cmp {x y : Value} {a b : Nat} {w : World} (hx : NatAt w x a) (hy : NatAt w y b) {k : Nat} (ha : a < Dg.D ^ k) (hb : b < Dg.D ^ k) (hk : k ≤ 1000) {z : Int} (hz : cmpN a b = z) :
    Calls Tryz.prog 60 #[x, y] w fun e w' => e = .returned (.int .i64 z) ∧ Gr w w' := by
  subst hz
  exact cmp_calls x y a b w hx hy k (b_B ha) (b_B hb) (by omega)
theorem c_zero {x : Value} {a : Nat} {w : World} (hx : NatAt w x a) {z : Bool} (hz : (a == 0) = z) : Calls Tryz.prog 78 #[x] w fun e w' => e = .returned (.bool z) ∧ Gr w w' := by
  subst hz
  exact (zero_calls x a w hx).mono fun _ _ h => ⟨h.1, h.2 ▸ Gr.rf w⟩
theorem c_text {x : Value} {a : Nat} {w : World} (hT : PowTab w) (hx : NatAt w x a) {k : Nat} (ha : a < Dg.D ^ k) (h1 : 1 ≤ k) (hk : k ≤ 1000) {X : ByteArray} (hX : X = ⟨(Lib.decDigits a).toArray⟩) :
    Calls Tryz.prog 61 #[x] w fun e w' => e = .returned (.string X) ∧ Gr w w' := by
  subst hX
  exact text_nat x a w hx k (b_B ha) h1 hk hT
theorem c_pow {x : Value} {a : Nat} {w : World} (hx : NatAt w x a) (K : Nat) {m : Nat} (ha : a < Dg.D ^ m) (hp : a ^ K < Dg.D ^ m) (h1 : 1 ≤ m) (hm : m ≤ 1000) (hK : K ≤ 1000000) :
    Calls Tryz.prog 62 #[x, .int .i64 (K : Int)] w fun e w' => (∃ r, e = .returned r ∧ NatAt w' r (a ^ K)) ∧ Gr w w' := pow_calls x a K w hx m (b_B ha) (b_B hp) h1 (by omega) hK
theorem c_sub_any {x y : Value} {a b : Nat} {w : World} (hx : NatAt w x a) (hy : NatAt w y b) {k : Nat} (ha : a < Dg.D ^ k) (hb : b < Dg.D ^ k) (hk : k ≤ 1000) :
    Calls Tryz.prog 148 #[x, y] w fun e w' => (∃ v, e = .returned v) ∧ Gr w w' := by
  rcases Nat.lt_or_ge a b with h | h
  · exact (c_sub_no hx hy ha hb hk h).mono fun _ _ h => ⟨⟨_, h.1⟩, h.2⟩
  · exact (c_sub hx hy ha hb hk h).mono fun _ _ h => ⟨(by obtain ⟨r, h1, _⟩ := h.1; exact ⟨_, h1⟩), h.2⟩
theorem c_div_any {x y : Value} {a b : Nat} {w : World} (hx : NatAt w x a) (hy : NatAt w y b) {k : Nat} (ha : a < Dg.D ^ k) (hb : b < Dg.D ^ k) (hk : k ≤ 1000) :
    Calls Tryz.prog 55 #[x, y] w fun e w' => (∃ v, e = .returned v) ∧ Gr w w' := by
  rcases Nat.eq_zero_or_pos b with h | h
  · exact (c_div_no hx hy ha hb hk h).mono fun _ _ h => ⟨⟨_, h.1⟩, h.2⟩
  · exact (c_div hx hy ha hb hk h).mono fun _ _ h => ⟨(by obtain ⟨q, r, h1, _⟩ := h.1; exact ⟨_, h1⟩), h.2⟩
theorem c_root {x : Value} {a : Nat} {w : World} (hx : NatAt w x a) {k : Nat} (ha : a < Dg.D ^ k) (h1 : 1 ≤ k) (hk : k ≤ 1000) :
    Calls Tryz.prog 63 #[x, .int .i64 2] w fun e w' => (∃ v, e = .returned v) ∧ Gr w w' :=
  (root_calls x a 2 w hx k (b_B ha) h1 (by omega) (by decide) (by decide)).mono fun _ _ h => ⟨(by obtain ⟨v, r, h1, _⟩ := h.1; exact ⟨_, h1⟩), h.2⟩
theorem c_pow3 {x : Value} {a : Nat} {w : World} (hx : NatAt w x a) {k : Nat} (ha : a < Dg.D ^ k) (h1 : 1 ≤ k) (hk : k ≤ 300) :
    Calls Tryz.prog 62 #[x, .int .i64 3] w fun e w' => (∃ v, e = .returned v) ∧ Gr w w' :=
  (c_pow hx 3 (m := 3 * k) (b_up ha (by omega)) (b_pow ha (by decide) (by omega)) (by omega) (by omega) (by decide)).mono fun _ _ h => ⟨(by obtain ⟨v, h1, _⟩ := h.1; exact ⟨_, h1⟩), h.2⟩
end
section
open Go.RowKit Go.Extern.Stop Go.Stop Go.Extern Go.Sort
set_option linter.unusedVariables false
set_option linter.unusedSimpArgs false

theorem r_ofU (x : Nat) (hx : x < B) (w : World) : Calls Tryz.prog 27 #[.int .u64 (x : Int)] w fun e w' => (∃ r, e = .returned r ∧ RN w' r x) ∧ Gr w w' := ofU_calls x hx w
theorem r_add {x y : Value} {a b : Nat} {w : World} (hx : RN w x a) (hy : RN w y b) {k : Nat} (ha : a < Dg.D ^ k) (hb : b < Dg.D ^ k) (hk : k ≤ 1000) :
    Calls Tryz.prog 79 #[x, y] w fun e w' => (∃ r, e = .returned r ∧ RN w' r (a + b)) ∧ Gr w w' := radd_calls x y a b w hx hy k ha hb (by omega)
theorem r_mul {x y : Value} {a b : Nat} {w : World} (hx : RN w x a) (hy : RN w y b) {k : Nat} (ha : a < Dg.D ^ k) (hb : b < Dg.D ^ k) (hk : k ≤ 1000) :
    Calls Tryz.prog 80 #[x, y] w fun e w' => (∃ r, e = .returned r ∧ RN w' r (a * b)) ∧ Gr w w' := rmul_calls x y a b w hx hy k ha hb (by omega)
theorem r_sub {x y : Value} {a b : Nat} {w : World} (hx : RN w x a) (hy : RN w y b) {k : Nat} (ha : a < Dg.D ^ k) (hb : b < Dg.D ^ k) (hk : k ≤ 1000) (hle : b ≤ a) :
    Calls Tryz.prog 145 #[x, y] w fun e w' => (∃ r, e = .returned r ∧ RN w' r (a - b)) ∧ Gr w w' := rsub_calls x y a b w hx hy hle k ha (by omega)
theorem r_cmp {x y : Value} {a b : Nat} {w : World} (hx : RN w x a) (hy : RN w y b) {k : Nat} (ha : a < Dg.D ^ k) (hb : b < Dg.D ^ k) (hk : k ≤ 1000) {z : Int} (hz : cmpN a b = z) :
    Calls Tryz.prog 37 #[x, y] w fun e w' => e = .returned (.int .i64 z) ∧ Gr w w' := by
  subst hz
  exact rcmp_calls x y a b w hx hy k ha hb (by omega)
theorem r_div {x y : Value} {a b : Nat} {w : World} (hx : RN w x a) (hy : RN w y b) {k : Nat} (ha : a < Dg.D ^ k) (hb : b < Dg.D ^ k) (hk : k ≤ 1000) (hb0 : 0 < b) :
    Calls Tryz.prog 84 #[x, y] w fun e w' => (∃ q r, e = .returned (.tuple #[q, r]) ∧ RN w' q (a / b) ∧ RN w' r (a % b)) ∧ Gr w w' := rdiv_calls x y a b w hx hy hb0 (k + 1) (b_up ha (by omega)) (b_up hb (by omega)) (by omega) (by omega)
theorem r_gcd {x y : Value} {a b : Nat} {w : World} (hx : RN w x a) (hy : RN w y b) {k : Nat} (ha : a < Dg.D ^ k) (hb : b < Dg.D ^ k) (hk : k ≤ 1000) :
    Calls Tryz.prog 93 #[x, y] w fun e w' => (∃ r, e = .returned r ∧ RN w' r (Nat.gcd a b)) ∧ Gr w w' := rgcd_calls x y a b w hx hy (k + 1) (b_up ha (by omega)) (b_up hb (by omega)) (by omega) (by omega)
theorem r_pow {x : Value} {a : Nat} {w : World} (hx : RN w x a) (K : Nat) {k : Nat} (ha : a < Dg.D ^ k) (hp : a ^ (K + 1) < Dg.D ^ k) (h1 : 1 ≤ k) (hk : k ≤ 1000) (hK : K ≤ 1000000) :
    Calls Tryz.prog 26 #[x, .int .i64 (K : Int)] w fun e w' => (∃ r, e = .returned r ∧ RN w' r (a ^ K)) ∧ Gr w w' := rpow_calls x a K w hx k hp ha (b_one h1) (by omega) hK
theorem r_text {x : Value} {a : Nat} {w : World} (hx : RN w x a) {k : Nat} (ha : a < Dg.D ^ k) (hk : k ≤ 250) {X : ByteArray} (hX : X = ⟨(Lib.decDigits a).toArray⟩) :
    Calls Tryz.prog 81 #[x] w fun e w' => e = .returned (.string X) ∧ Gr w w' := by
  subst hX
  exact rtext_calls x a w hx (Nat.lt_of_lt_of_le ha (Nat.le_trans (Nat.le_of_eq (D_pow k)) (Nat.le_trans (Nat.pow_le_pow_right (by decide) (show 9 * k ≤ 9 * 500 by omega)) (Nat.le_of_eq (D_pow 500).symm))))
theorem c_sub_ptr {x y : Value} {a b : Nat} {w : World} (hx : NatAt w x a) (hy : NatAt w y b) {k : Nat} (ha : a < Dg.D ^ k) (hb : b < Dg.D ^ k) (hk : k ≤ 1000) (hle : b ≤ a) :
    Calls Tryz.prog 148 #[x, y] w fun e w' => (∃ p : Nat, e = .returned (.tuple #[.pointer (some ⟨p, 0, none⟩), .nilIface]) ∧ NatP w' (.pointer (some ⟨p, 0, none⟩)) (a - b)) ∧ Gr w w' := by
  refine (c_sub hx hy ha hb hk hle).mono ?_
  rintro e w' ⟨⟨r, rfl, hr⟩, hg⟩
  obtain ⟨p, hp⟩ := hr.1
  subst hp
  exact ⟨⟨p, rfl, hr⟩, hg⟩
theorem len_eq_zero {l n : Nat} {b : Bool} (h : l = 0 ↔ n = 0) (hb : (n == 0) = b) : ((l : Int) == 0) = b := by
  subst hb
  by_cases e : n = 0
  · have := h.2 e; subst this; subst e; rfl
  · have : l ≠ 0 := fun e2 => e (h.1 e2)
    rw [beq_eq_false_iff_ne.2 e]
    exact beq_eq_false_iff_ne.2 (by omega)
theorem numeral_T (n m : Nat) (h : n < 10 ^ m) (h0 : 0 < m) (hm : m ≤ 4000) : NumT ⟨(Lib.decDigits n).toArray⟩ ∧ dv (⟨(Lib.decDigits n).toArray⟩ : ByteArray).data.toList = n := by
  obtain ⟨h1, h2, h3, h4⟩ := numeral n
  have hl : (⟨(Lib.decDigits n).toArray⟩ : ByteArray).size = (Lib.decDigits n).length := by rw [Lib.size_eq]
  have hlen : (Lib.decDigits n).length ≤ 4000 := Nat.le_trans (nd_le m n h0 h) hm
  have hpos : 0 < (Lib.decDigits n).length := List.length_pos_iff.2 h3
  refine ⟨⟨by omega, by omega, ?_, h1⟩, h2⟩
  rcases h4 with h4 | h4
  · exact .inl (by omega)
  · refine .inr fun hp e => h4 ?_
    rw [← at_list _ 0 hp (by show 0 < (Lib.decDigits n).length; exact hpos)] at e
    rw [List.head?_eq_getElem?, List.getElem?_eq_getElem hpos]
    congr 1
    exact UInt8.toNat_inj.1 e
theorem ten_bd {n k : Nat} (h : n < Dg.D ^ k) : n < 10 ^ (9 * k) := Nat.lt_of_lt_of_le h (Nat.le_of_eq (D_pow k))
/-- GetN of a number's numeral. -/
theorem r_getN {n k : Nat} {X : ByteArray} {w : World} (hX : X = ⟨(Lib.decDigits n).toArray⟩) (h : n < Dg.D ^ k) (h1 : 1 ≤ k) (hk : k ≤ 400) :
    Calls Tryz.prog 64 #[.string X] w fun e w' => (∃ r, e = .returned (.tuple #[r, .bool true]) ∧ RN w' r n) ∧ Gr w w' := by
  subst hX
  obtain ⟨h1, h2⟩ := numeral_T n (9 * k) (ten_bd h) (by omega) (by omega)
  have h3 := rgetN_calls ⟨(Lib.decDigits n).toArray⟩ w
  rw [h2] at h3
  exact h3.mono fun _ _ hh => ⟨hh.1.1 h1, hh.2⟩
/-- What (y % k + k) % k comes to: the walk's two spellings, a natural number. -/
theorem rem_nat (y k : Int) (hk : 0 < k) : ∃ R : Nat, (y.tmod k + k) % k = (R : Int) ∧ y.tmod k % k = (R : Int) ∧ (R : Int) < k ∧ -k < y.tmod k ∧ y.tmod k < k := by
  have h0 := Int.emod_nonneg (y.tmod k + k) (by omega : k ≠ 0)
  have h1 := Int.emod_lt_of_pos (y.tmod k + k) hk
  have h2 := Int.lt_tmod_of_pos y hk
  have h3 := Int.tmod_lt_of_pos y hk
  refine ⟨((y.tmod k + k) % k).toNat, by omega, ?_, by omega, h2, h3⟩
  rw [← Int.add_emod_right]
  omega
end
end Go.Proofs.YtcjjgdoafkdeaaaGreatDoor
