/- Layer 6: 'weekdays of some days, by the calendar on the wall', walked. -/
import Derived.Test.YtjgihjpckjdikaaGreatDoorKm
import Derived.Test.YtjgihjpckjdikaaGreatDoorKg
import Derived.Test.YtjgihjpckjdikaaGreatDoorHi
import Derived.StringKeys
namespace Go.Proofs.YtjgihjpckjdikaaGreatDoor
open Go.RowKit Go.Extern.Stop Go.Stop Go.Extern Go.Maps Go.WideMaps
set_option linter.unusedVariables false
set_option linter.unusedSimpArgs false

theorem underStrS : Tryz.prog.underlying 9 = some .string := by kernel_rfl
theorem underMapSI : Tryz.prog.underlying 74 = some (.map 9 3) := by kernel_rfl
theorem lawStrS : Keyed Tryz.prog 9 := string_keyed underStrS
def dayS (x : Known) : ByteArray := ⟨(dayL x.y x.m x.k).toArray⟩
def knownL : List (Lit × DataW Unit) := knowns.map fun x => (.string (dayL x.y x.m x.k), .lit (.int .i64 x.wd))
theorem dayL_lit (y m k : Nat) (h0 : 1000 ≤ y) (h1 : y < 10000) (hb : m < 100) (hc : k < 100) : dayL y m k = [ch (y / 10 / 10 / 10), ch (y / 10 / 10), ch (y / 10), ch y, 45, ch (m / 10), ch m, 45, ch (k / 10), ch k] := dayL_ten y m k h0 h1 hb hc
theorem knownL_eq : knownL = [(.string [49, 57, 48, 48, 45, 48, 49, 45, 48, 49], .lit (.int .i64 1)), (.string [49, 57, 54, 57, 45, 48, 55, 45, 50, 48], .lit (.int .i64 0)), (.string [50, 48, 48, 48, 45, 48, 49, 45, 48, 49], .lit (.int .i64 6)),
    (.string [50, 48, 50, 52, 45, 48, 50, 45, 50, 57], .lit (.int .i64 4)), (.string [50, 48, 50, 54, 45, 49, 49, 45, 49, 54], .lit (.int .i64 1)), (.string [50, 49, 48, 48, 45, 48, 51, 45, 48, 49], .lit (.int .i64 1)), (.string [50, 49, 57, 57, 45, 49, 50, 45, 51, 49], .lit (.int .i64 2))] := by
  show [_, _, _, _, _, _, _] = _
  simp only [dayL_lit 1900 1 1 (by decide) (by decide) (by decide) (by decide), dayL_lit 1969 7 20 (by decide) (by decide) (by decide) (by decide), dayL_lit 2000 1 1 (by decide) (by decide) (by decide) (by decide), dayL_lit 2024 2 29 (by decide) (by decide) (by decide) (by decide), dayL_lit 2026 11 16 (by decide) (by decide) (by decide) (by decide), dayL_lit 2100 3 1 (by decide) (by decide) (by decide) (by decide), dayL_lit 2199 12 31 (by decide) (by decide) (by decide) (by decide)]
  rfl
theorem known_of {s : ByteArray} {c : Int} (h : ((Lit.string s.data.toList, DataW.lit (.int .i64 c)) : Lit × DataW Unit) ∈ knownL) : ∃ x ∈ knowns, s = dayS x ∧ c = x.wd := by
  obtain ⟨x, hx, he⟩ := List.mem_map.1 h
  injection he with e1 e2
  injection e1 with e1
  injection e2 with e2
  injection e2 with _ e2
  refine ⟨x, hx, ?_, e2.symm⟩
  unfold dayS
  rw [e1]
theorem plainInt_ex {v : Value} {y : DataW Unit × List MemPlace} (h : plainElem (H := Unit) Tryz.prog 3 v = some y) : ∃ c : Int, v = .int .i64 c ∧ y.1 = .lit (.int .i64 c) := by
  unfold plainElem at h
  rw [underInt] at h
  cases v <;> simp at h
  obtain ⟨⟨rfl, _⟩, rfl⟩ := h
  exact ⟨_, rfl, rfl⟩
theorem keyStr_ex {v : Value} {kl : Lit} (h : keyOf Tryz.prog 9 v = some kl) : ∃ s : ByteArray, v = .string s ∧ kl = .string s.data.toList := by
  rw [keyOf_string underStrS] at h
  cases v <;> simp [mapKey] at h
  exact ⟨_, rfl, h.2.symm⟩
theorem get2100 (w : World) : Calls Tryz.prog 45 #[.string ⟨#[50, 49, 48, 48, 45, 48, 50, 45, 50, 57]⟩] w fun e w' => e = .returned (.tuple #[.int .i64 0, .iface 97 (.int .i64 4)]) ∧ Gr w w' := by
  have h := get_calls ⟨#[50, 49, 48, 48, 45, 48, 50, 45, 50, 57]⟩ (by decide) w
  rw [show (⟨#[50, 49, 48, 48, 45, 48, 50, 45, 50, 57]⟩ : ByteArray).data.toList = dayL 2100 2 29 by rw [dayL_lit 2100 2 29 (by decide) (by decide) (by decide) (by decide)]; rfl, no_2100] at h
  exact h
theorem get1899 (w : World) : Calls Tryz.prog 45 #[.string ⟨#[49, 56, 57, 57, 45, 49, 50, 45, 51, 49]⟩] w fun e w' => e = .returned (.tuple #[.int .i64 0, .iface 97 (.int .i64 4)]) ∧ Gr w w' := by
  have h := get_calls ⟨#[49, 56, 57, 57, 45, 49, 50, 45, 51, 49]⟩ (by decide) w
  rw [show (⟨#[49, 56, 57, 57, 45, 49, 50, 45, 51, 49]⟩ : ByteArray).data.toList = dayL 1899 12 31 by rw [dayL_lit 1899 12 31 (by decide) (by decide) (by decide) (by decide)]; rfl, no_1899] at h
  exact h
set_option maxRecDepth 100000 in
set_option maxHeartbeats 16000000 in
theorem dateKnown_calls (w : World) (hM : Met2 w) : Calls Tryz.prog 15 #[] w fun e w' => e = .returned (.bool true) ∧ Gr w w' := by
  have HM := Lib.hid hM
  clear hM
  have hmm := @run_makeMap Tryz.prog
  have HM0 := Lib.hid (mapOf_made 9 (plainElem Tryz.prog 3) w knownL)
  have HG0 : Hid (Gr w (w.alloc (.map #[] 0))) := Lib.hid ((Gr.rf w).alloc (Nat.le_refl _) (.map #[] 0))
  go_enter Tryz.func15, Tryz.ntmps15
  go_wp2_with (first | (refine wpList_lit_insert rfl _ _ _ rfl HM0.out lawStrS underMapSI (by decide) rfl (.string ⟨#[49, 57, 48, 48, 45, 48, 49, 45, 48, 49]⟩) (.int .i64 1) rfl rfl (keyOf_string_mk underStrS (by decide)) (plainElem_int underInt (by decide)) (by rw [knownL_eq]; exact .head _) ?_; intro W1 hm1 hg1) | (refine wpList_lit_insert rfl _ _ _ rfl hm1 lawStrS underMapSI (by decide) rfl (.string ⟨#[49, 57, 54, 57, 45, 48, 55, 45, 50, 48]⟩) (.int .i64 0) rfl rfl (keyOf_string_mk underStrS (by decide)) (plainElem_int underInt (by decide)) (by rw [knownL_eq]; exact .tail _ (.head _)) ?_; intro W2 hm2 hg2) | (refine wpList_lit_insert rfl _ _ _ rfl hm2 lawStrS underMapSI (by decide) rfl (.string ⟨#[50, 48, 48, 48, 45, 48, 49, 45, 48, 49]⟩) (.int .i64 6) rfl rfl (keyOf_string_mk underStrS (by decide)) (plainElem_int underInt (by decide)) (by rw [knownL_eq]; exact .tail _ (.tail _ (.head _))) ?_; intro W3 hm3 hg3) | (refine wpList_lit_insert rfl _ _ _ rfl hm3 lawStrS underMapSI (by decide) rfl (.string ⟨#[50, 48, 50, 52, 45, 48, 50, 45, 50, 57]⟩) (.int .i64 4) rfl rfl (keyOf_string_mk underStrS (by decide)) (plainElem_int underInt (by decide)) (by rw [knownL_eq]; exact .tail _ (.tail _ (.tail _ (.head _)))) ?_; intro W4 hm4 hg4) | (refine wpList_lit_insert rfl _ _ _ rfl hm4 lawStrS underMapSI (by decide) rfl (.string ⟨#[50, 48, 50, 54, 45, 49, 49, 45, 49, 54]⟩) (.int .i64 1) rfl rfl (keyOf_string_mk underStrS (by decide)) (plainElem_int underInt (by decide)) (by rw [knownL_eq]; exact .tail _ (.tail _ (.tail _ (.tail _ (.head _))))) ?_; intro W5 hm5 hg5) | (refine wpList_lit_insert rfl _ _ _ rfl hm5 lawStrS underMapSI (by decide) rfl (.string ⟨#[50, 49, 48, 48, 45, 48, 51, 45, 48, 49]⟩) (.int .i64 1) rfl rfl (keyOf_string_mk underStrS (by decide)) (plainElem_int underInt (by decide)) (by rw [knownL_eq]; exact .tail _ (.tail _ (.tail _ (.tail _ (.tail _ (.head _)))))) ?_; intro W6 hm6 hg6) | (refine wpList_lit_insert rfl _ _ _ rfl hm6 lawStrS underMapSI (by decide) rfl (.string ⟨#[50, 49, 57, 57, 45, 49, 50, 45, 51, 49]⟩) (.int .i64 2) rfl rfl (keyOf_string_mk underStrS (by decide)) (plainElem_int underInt (by decide)) (by rw [knownL_eq]; exact .tail _ (.tail _ (.tail _ (.tail _ (.tail _ (.tail _ (.head _))))))) ?_; intro W7 hm7 hg7) | (at_range; obtain ⟨D, hown, hD⟩ := hm7; refine wpList_range_own _ rfl _ 74 rfl 9 3 lawStrS underMapSI _ w.heap.size 7 _ rfl hown ?_; intro W8 hrg8 hg8 hs8))
  have HD := Lib.hid hD
  have HG7 : Hid (Gr w W7) := Lib.hid (((((((HG0.out.grown hg1 (Nat.le_refl _)).grown hg2 (Nat.le_refl _)).grown hg3 (Nat.le_refl _)).grown hg4 (Nat.le_refl _)).grown hg5 (Nat.le_refl _)).grown hg6 (Nat.le_refl _)).grown hg7 (Nat.le_refl _))
  obtain ⟨b, hb⟩ : ∃ b, w.heap.size = b := ⟨_, rfl⟩
  have HB := Lib.hid (show w.heap.size ≤ b by omega)
  rw [hb] at hrg8
  clear hb hm1 hm2 hm3 hm4 hm5 hm6 hg1 hg2 hg3 hg4 hg5 hg6 hg7 hD
  have HG8 := Lib.hid (HG7.out.grown (hg8.but (some b)) HB.out)
  obtain ⟨r0, hr0⟩ : ∃ r0, W7.heap.size = r0 := ⟨_, rfl⟩
  have HR0 := Lib.hid (show w.heap.size ≤ r0 by have := HG7.out.size; omega)
  rw [hr0] at hrg8 ⊢
  have HRG := Lib.hid hrg8
  clear hrg8 hg8 hs8 hr0 hown HM0 HG0
  go_frame
  go_loopg [] (Maps.size D) (fun g wq => ∃ left : Lit → Bool, Hid (wq.ranges Tryz.prog 9 (plainElem Tryz.prog 3) b r0 7 D left g) ∧ Hid (∀ z, left z = true → Maps.has D z = true) ∧ Hid (Gr w wq))
  case atStart => exact ⟨_, HRG, Lib.hid (fun z h => h), HG8⟩
  case round =>
    clear HRG HG8
    obtain ⟨left, HR, HLF, HG⟩ := hrel
    go_wp2_with (at_next; refine wpList_next_ranges _ rfl _ rfl 9 lawStrS (plainElem Tryz.prog 3) Value.string (Value.int .i64) (fun key kl h => by obtain ⟨s, rfl, _⟩ := keyStr_ex h; exact ⟨s, rfl⟩) (fun v y h => by obtain ⟨c, rfl, _⟩ := plainInt_ex h; exact ⟨c, rfl⟩) b r0 7 D left gk rfl HR.out ?_ ?_)
    · intro hc0 hl0
      clear hc0 hl0
      go_wp2_with (first | (go_at_call 45; (with_reducible refine (get2100 _).mono ?_); rintro ev w2 ⟨rfl, hg2⟩))
      go_wp2_with (first | (go_at_call 45; (with_reducible refine (get1899 _).mono ?_); rintro ev w3 ⟨rfl, hg3⟩))
      have HG3 := Lib.hid (HG.out.tr (hg2.tr hg3))
      clear hg2 hg3
      refine (begun6_calls w3 (HM.out.keep HG3.out)).mono ?_
      rintro ev w4 ⟨rfl, hg4⟩
      have HG4 := Lib.hid (HG3.out.tr hg4)
      clear hg4
      go_wp2_with fail
      refine (sameDate_calls w4 (HM.out.keep HG4.out).1).mono ?_
      rintro ev w5 ⟨rfl, hg5⟩
      have HG5 := Lib.hid (HG4.out.tr hg5)
      clear hg5
      go_wp2_with fail
      refine (sameDate_calls w5 (HM.out.keep HG5.out).1).mono ?_
      rintro ev w6 ⟨rfl, hg6⟩
      have HG6 := Lib.hid (HG5.out.tr hg6)
      clear hg6
      go_wp2
      go_ret
      exact ⟨by first | rfl | simp, HG6.out⟩
    · intro s c kl y ps w1 cnt1 hkey hlk hv hat hrg1 hlt1 hg1 hs1 hen
      have hin := HD.out kl y (HLF.out kl hlk)
      rw [hat] at hin
      obtain ⟨s', e1, rfl⟩ := keyStr_ex hkey
      injection e1 with e1
      subst e1
      obtain ⟨c', e2, hy⟩ := plainInt_ex hv
      injection e2 with _ e2
      rw [show y = DataW.lit (.int .i64 c') from hy, ← e2] at hin
      obtain ⟨x, hx, rfl, rfl⟩ := known_of hin
      obtain ⟨hday, hwd⟩ := known_day hx
      have HRG1 := Lib.hid hrg1
      have HLT1 := Lib.hid hlt1
      have HG1 := Lib.hid (HG.out.grown hg1 HR0.out)
      have HLF1 := Lib.hid (fun z (hz : (left z && !z.sameKey (.string (dayS x).data.toList)) = true) => HLF.out z (Bool.and_eq_true_iff.1 hz).1)
      have hga := fun w => dget_back hday w
      have hta := fun w hT => dtext_calls x.d x.y x.m x.k hday w hT
      have hwa := fun w => weekday_calls x.d w (isDay_range hday).1 (isDay_range hday).2
      rw [hwd] at hwa
      simp only [Int.toNat_natCast] at hga hta
      obtain ⟨A, hA⟩ : ∃ A, dayS x = A := ⟨_, rfl⟩
      rw [show (⟨(dayL x.y x.m x.k).toArray⟩ : ByteArray) = A from hA] at hga hta
      rw [hA] at hen HLF1 HRG1 ⊢
      generalize x.d = X at hga hta hwa
      generalize x.wd = Wd at hwa hen ⊢
      have HGA := Lib.hid hga
      have HTA := Lib.hid hta
      have HWA := Lib.hid hwa
      clear hkey hlk hv hat hrg1 hlt1 hg1 hs1 hin hy hx hday hwd hga hta hwa hA
      go_wp2_with (go_at_call 45; (with_reducible refine (HGA.out _).mono ?_); rintro ev w2 ⟨rfl, hg2⟩)
      have HG2 := Lib.hid (HG1.out.tr hg2)
      have HRG2 := Lib.hid (ranges_gr HRG1.out hg2)
      clear hg2 hen
      go_wp2_with (go_at_call 46; (with_reducible refine (HWA.out _).mono ?_); rintro ev w3 ⟨rfl, rfl⟩)
      refine (HTA.out _ (HM.out.keep HG2.out).2.2).mono ?_
      rintro ev w3 ⟨rfl, hg3⟩
      have HG3 := Lib.hid (HG2.out.tr hg3)
      have HRG3 := Lib.hid (ranges_gr HRG2.out hg3)
      clear hg3
      go_wp2
      go_roundg cnt1
      case measure => exact HLT1.out
      case rel => exact ⟨_, HRG3, HLF1, HG3⟩
end Go.Proofs.YtjgihjpckjdikaaGreatDoor
