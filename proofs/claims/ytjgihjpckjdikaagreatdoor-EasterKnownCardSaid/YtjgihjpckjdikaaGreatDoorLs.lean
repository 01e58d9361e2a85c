/- Layer 6: 'Easter of some years, by the calendar on the wall', walked. -/
import Derived.Test.YtjgihjpckjdikaaGreatDoorKm
import Derived.Test.YtjgihjpckjdikaaGreatDoorKg
import Derived.Test.YtjgihjpckjdikaaGreatDoorHi
namespace Go.Proofs.YtjgihjpckjdikaaGreatDoor
open Go.RowKit Go.Extern.Stop Go.Stop Go.Extern Go.Maps Go.WideMaps
set_option linter.unusedVariables false
set_option linter.unusedSimpArgs false

theorem underMapIC : Tryz.prog.underlying 24 = some (.map 3 23) := by kernel_rfl
/-- How a civil day among a map's entries reads. -/
def civE : Value → Option (DataW Unit × List MemPlace)
  | .agg ⟨[.int .i64 a, .int .i64 b, .int .i64 c]⟩ => some (.agg [.lit (.int .i64 a), .lit (.int .i64 b), .lit (.int .i64 c)], [])
  | _ => none
def mkC (t : Int × Int × Int) : Value := .agg #[.int .i64 t.1, .int .i64 t.2.1, .int .i64 t.2.2]
theorem civE_ex {v : Value} {y : DataW Unit × List MemPlace} (h : civE v = some y) : ∃ t : Int × Int × Int, v = mkC t ∧ y.1 = .agg [.lit (.int .i64 t.1), .lit (.int .i64 t.2.1), .lit (.int .i64 t.2.2)] := by
  unfold civE at h
  split at h
  · rename_i a b c
    exact ⟨(a, b, c), rfl, by rw [← Option.some.inj h]⟩
  · cases h
def easterL : List (Lit × DataW Unit) := easters.map fun x => (.int .i64 x.1, .agg [.lit (.int .i64 x.1), .lit (.int .i64 x.2.1), .lit (.int .i64 x.2.2)])
theorem easterL_eq : easterL = [(.int .i64 1900, .agg [.lit (.int .i64 1900), .lit (.int .i64 4), .lit (.int .i64 15)]), (.int .i64 1943, .agg [.lit (.int .i64 1943), .lit (.int .i64 4), .lit (.int .i64 25)]), (.int .i64 1961, .agg [.lit (.int .i64 1961), .lit (.int .i64 4), .lit (.int .i64 2)]), (.int .i64 2000, .agg [.lit (.int .i64 2000), .lit (.int .i64 4), .lit (.int .i64 23)]), (.int .i64 2008, .agg [.lit (.int .i64 2008), .lit (.int .i64 3), .lit (.int .i64 23)]), (.int .i64 2019, .agg [.lit (.int .i64 2019), .lit (.int .i64 4), .lit (.int .i64 21)]), (.int .i64 2024, .agg [.lit (.int .i64 2024), .lit (.int .i64 3), .lit (.int .i64 31)]), (.int .i64 2025, .agg [.lit (.int .i64 2025), .lit (.int .i64 4), .lit (.int .i64 20)]), (.int .i64 2038, .agg [.lit (.int .i64 2038), .lit (.int .i64 4), .lit (.int .i64 25)])] := rfl
theorem easter_of {y : Int} {t : Int × Int × Int} (h : ((Lit.int .i64 y, DataW.agg [.lit (.int .i64 t.1), .lit (.int .i64 t.2.1), .lit (.int .i64 t.2.2)]) : Lit × DataW Unit) ∈ easterL) : t ∈ easters ∧ y = t.1 := by
  obtain ⟨x, hx, he⟩ := List.mem_map.1 h
  simp at he
  obtain ⟨h0, h1, h2, h3⟩ := he
  obtain ⟨a, b, c⟩ := t
  obtain ⟨a', b', c'⟩ := x
  simp at h0 h1 h2 h3
  subst h1 h2 h3
  exact ⟨hx, h0.symm⟩
theorem easter_rng : ∀ t ∈ easters, decide (1900 ≤ t.1 ∧ t.1 ≤ 2199) = true := List.all_eq_true.1 (show (easters.all fun t => decide (1900 ≤ t.1 ∧ t.1 ≤ 2199)) = true by decide +kernel)
set_option maxRecDepth 100000 in
set_option maxHeartbeats 16000000 in
theorem easterKnown_calls (w : World) (hM : Met2 w) : Calls Tryz.prog 3 #[] w fun e w' => e = .returned (.bool true) ∧ Gr w w' := by
  have HM := Lib.hid hM
  clear hM
  have hmm := @run_makeMap Tryz.prog
  have HM0 := Lib.hid (mapOf_made 3 civE w easterL)
  have HG0 : Hid (Gr w (w.alloc (.map #[] 0))) := Lib.hid ((Gr.rf w).alloc (Nat.le_refl _) (.map #[] 0))
  go_enter Tryz.func3, Tryz.ntmps3
  go_wp2_with (first | (refine wpList_lit_insert rfl _ _ _ rfl HM0.out lawInt underMapIC (by decide) rfl (.int .i64 1900) (.agg #[.int .i64 1900, .int .i64 4, .int .i64 15]) rfl rfl (keyInt (by decide) (by decide)) rfl (by rw [easterL_eq]; exact .head _) ?_; intro W1 hm1 hg1) | (refine wpList_lit_insert rfl _ _ _ rfl hm1 lawInt underMapIC (by decide) rfl (.int .i64 1943) (.agg #[.int .i64 1943, .int .i64 4, .int .i64 25]) rfl rfl (keyInt (by decide) (by decide)) rfl (by rw [easterL_eq]; exact .tail _ (.head _)) ?_; intro W2 hm2 hg2) | (refine wpList_lit_insert rfl _ _ _ rfl hm2 lawInt underMapIC (by decide) rfl (.int .i64 1961) (.agg #[.int .i64 1961, .int .i64 4, .int .i64 2]) rfl rfl (keyInt (by decide) (by decide)) rfl (by rw [easterL_eq]; exact .tail _ (.tail _ (.head _))) ?_; intro W3 hm3 hg3) | (refine wpList_lit_insert rfl _ _ _ rfl hm3 lawInt underMapIC (by decide) rfl (.int .i64 2000) (.agg #[.int .i64 2000, .int .i64 4, .int .i64 23]) rfl rfl (keyInt (by decide) (by decide)) rfl (by rw [easterL_eq]; exact .tail _ (.tail _ (.tail _ (.head _)))) ?_; intro W4 hm4 hg4) | (refine wpList_lit_insert rfl _ _ _ rfl hm4 lawInt underMapIC (by decide) rfl (.int .i64 2008) (.agg #[.int .i64 2008, .int .i64 3, .int .i64 23]) rfl rfl (keyInt (by decide) (by decide)) rfl (by rw [easterL_eq]; exact .tail _ (.tail _ (.tail _ (.tail _ (.head _))))) ?_; intro W5 hm5 hg5) | (refine wpList_lit_insert rfl _ _ _ rfl hm5 lawInt underMapIC (by decide) rfl (.int .i64 2019) (.agg #[.int .i64 2019, .int .i64 4, .int .i64 21]) rfl rfl (keyInt (by decide) (by decide)) rfl (by rw [easterL_eq]; exact .tail _ (.tail _ (.tail _ (.tail _ (.tail _ (.head _)))))) ?_; intro W6 hm6 hg6) | (refine wpList_lit_insert rfl _ _ _ rfl hm6 lawInt underMapIC (by decide) rfl (.int .i64 2024) (.agg #[.int .i64 2024, .int .i64 3, .int .i64 31]) rfl rfl (keyInt (by decide) (by decide)) rfl (by rw [easterL_eq]; exact .tail _ (.tail _ (.tail _ (.tail _ (.tail _ (.tail _ (.head _))))))) ?_; intro W7 hm7 hg7) | (refine wpList_lit_insert rfl _ _ _ rfl hm7 lawInt underMapIC (by decide) rfl (.int .i64 2025) (.agg #[.int .i64 2025, .int .i64 4, .int .i64 20]) rfl rfl (keyInt (by decide) (by decide)) rfl (by rw [easterL_eq]; exact .tail _ (.tail _ (.tail _ (.tail _ (.tail _ (.tail _ (.tail _ (.head _)))))))) ?_; intro W8 hm8 hg8) | (refine wpList_lit_insert rfl _ _ _ rfl hm8 lawInt underMapIC (by decide) rfl (.int .i64 2038) (.agg #[.int .i64 2038, .int .i64 4, .int .i64 25]) rfl rfl (keyInt (by decide) (by decide)) rfl (by rw [easterL_eq]; exact .tail _ (.tail _ (.tail _ (.tail _ (.tail _ (.tail _ (.tail _ (.tail _ (.head _))))))))) ?_; intro W9 hm9 hg9) | (at_range; obtain ⟨D, hown, hD⟩ := hm9; refine wpList_range_own _ rfl _ 24 rfl 3 23 lawInt underMapIC _ w.heap.size 9 _ rfl hown ?_; intro W10 hrg8 hg10 hs8))
  have HD := Lib.hid hD
  have HG9 : Hid (Gr w W9) := Lib.hid (((((((((HG0.out.grown hg1 (Nat.le_refl _)).grown hg2 (Nat.le_refl _)).grown hg3 (Nat.le_refl _)).grown hg4 (Nat.le_refl _)).grown hg5 (Nat.le_refl _)).grown hg6 (Nat.le_refl _)).grown hg7 (Nat.le_refl _)).grown hg8 (Nat.le_refl _)).grown hg9 (Nat.le_refl _))
  obtain ⟨b, hb⟩ : ∃ b, w.heap.size = b := ⟨_, rfl⟩
  have HB := Lib.hid (show w.heap.size ≤ b by omega)
  rw [hb] at hrg8
  clear hb hm1 hm2 hm3 hm4 hm5 hm6 hm7 hm8 hg1 hg2 hg3 hg4 hg5 hg6 hg7 hg8 hg9 hD
  have HG10 := Lib.hid (HG9.out.grown (hg10.but (some b)) HB.out)
  obtain ⟨r0, hr0⟩ : ∃ r0, W9.heap.size = r0 := ⟨_, rfl⟩
  have HR0 := Lib.hid (show w.heap.size ≤ r0 by have := HG9.out.size; omega)
  rw [hr0] at hrg8 ⊢
  have HRG := Lib.hid hrg8
  clear hrg8 hg10 hs8 hr0 hown HM0 HG0
  go_frame
  go_loopg [] (Maps.size D) (fun g wq => ∃ left : Lit → Bool, Hid (wq.ranges Tryz.prog 3 civE b r0 9 D left g) ∧ Hid (∀ z, left z = true → Maps.has D z = true) ∧ Hid (Gr w wq))
  case atStart => exact ⟨_, HRG, Lib.hid (fun z h => h), HG10⟩
  case round =>
    clear HRG HG10
    obtain ⟨left, HR, HLF, HG⟩ := hrel
    go_wp2_with (at_next; refine wpList_next_ranges _ rfl _ rfl 3 lawInt civE (Value.int .i64) mkC (fun key kl h => by obtain ⟨s, rfl, _⟩ := Maps.keyOf_int_inv underInt h; exact ⟨s, rfl⟩) (fun v y h => by obtain ⟨c, rfl, _⟩ := civE_ex h; exact ⟨c, rfl⟩) b r0 9 D left gk rfl HR.out ?_ ?_)
    · intro hc0 hl0
      clear hc0 hl0
      go_wp2_with fail
      refine (begun6_calls _ (HM.out.keep HG.out)).mono ?_
      rintro ev w4 ⟨rfl, hg4⟩
      go_wp2
      go_ret
      exact ⟨rfl, HG.out.tr hg4⟩
    · intro yr ya ma qa kl y ps w1 cnt1 hkey hlk hv hat hrg1 hlt1 hg1 hs1 hen
      have hin := HD.out kl y (HLF.out kl hlk)
      rw [hat] at hin
      obtain ⟨yr', e1, rfl, _⟩ := Maps.keyOf_int_inv underInt hkey
      injection e1 with _ e1
      have hy : some (DataW.agg [.lit (.int .i64 ya), .lit (.int .i64 ma), .lit (.int .i64 qa)], ([] : List MemPlace)) = some (y, ps) := hv
      injection hy with hy
      injection hy with hy _
      rw [← hy] at hin
      obtain ⟨hx, he⟩ := easter_of (t := (ya, ma, qa)) hin
      have hyr : yr = ya := e1.trans he
      obtain ⟨hr0, hr1⟩ := of_decide_eq_true (easter_rng _ hx)
      obtain ⟨hm1, hm2⟩ := of_decide_eq_true (easters_ok _ hx)
      have hr0 : 1900 ≤ ya := hr0
      have hr1 : ya ≤ 2199 := hr1
      have hm1 : eastAt ya / 31 = ma := hm1
      have hm2 : eastAt ya % 31 + 1 = qa := hm2
      have HRG1 := Lib.hid hrg1
      have HLT1 := Lib.hid hlt1
      have HG1 := Lib.hid (HG.out.grown hg1 HR0.out)
      have HLF1 := Lib.hid (fun z (hz : (left z && !z.sameKey (.int .i64 yr')) = true) => HLF.out z (Bool.and_eq_true_iff.1 hz).1)
      rw [← e1] at HRG1 HLF1
      subst hyr
      have hsa := fun w => sunday_calls yr hr0 hr1 w
      have hca := fun w => civil_calls (eastN yr) yr (eastAt yr / 31) (eastAt yr % 31 + 1) (eastN_day yr hr0 hr1) w
      rw [hm1, hm2] at hca
      generalize eastN yr = X at hsa hca
      have HSA := Lib.hid hsa
      have HCA := Lib.hid hca
      clear hkey hlk hv hat hrg1 hlt1 hg1 hs1 hin hy hx hr0 hr1 hm1 hm2 hsa hca e1 he
      rw [show mkC (yr, ma, qa) = .agg #[.int .i64 yr, .int .i64 ma, .int .i64 qa] from rfl] at hen ⊢
      go_wp2_with fail
      have hblk : (w1.alloc (.cells #[.int .i64 yr, .int .i64 ma, .int .i64 qa] 23)).heap[w1.heap.size]? = some (.cells #[.int .i64 yr, .int .i64 ma, .int .i64 qa] 23 (0, 0)) := heap_alloc_new w1 _
      have hga : Gr w1 (w1.alloc (.cells #[.int .i64 yr, .int .i64 ma, .int .i64 qa] 23)) := (Gr.rf w1).alloc (Nat.le_refl _) _
      generalize w1.alloc (.cells #[.int .i64 yr, .int .i64 ma, .int .i64 qa] 23) = W1 at hblk hga ⊢
      generalize w1.heap.size = bb at hblk ⊢
      refine (HSA.out _).mono ?_
      rintro ev w2 ⟨rfl, hg2⟩
      have HB2 := Lib.hid (hg2.heap hblk)
      have HGA2 := Lib.hid (hga.tr hg2)
      clear hblk hga hg2 hen
      go_wp2_with fail
      refine (HCA.out _).mono ?_
      rintro ev w3 ⟨rfl, hg3⟩
      have hb3 := hg3.heap HB2.out
      have c0 := heap_cell hb3 0
      have c1 := heap_cell hb3 1
      have c2 := heap_cell hb3 2
      have hlt := cells_lt hb3
      have hn1 : bb ≠ w3.heap.size := by omega
      have hn2 : w3.heap.size ≠ bb := by omega
      have HGA3 : Hid (Gr w1 (w3.alloc (.cells #[.int .i64 yr, .int .i64 ma, .int .i64 qa] 23))) := Lib.hid ((HGA2.out.tr hg3).tr ((Gr.rf w3).alloc (Nat.le_refl _) _))
      clear hb3 hg3
      go_wp2
      go_roundg cnt1
      case measure => exact HLT1.out
      case rel => exact ⟨_, ranges_gr HRG1.out HGA3.out, HLF1, Lib.hid (HG1.out.tr HGA3.out)⟩
end Go.Proofs.YtjgihjpckjdikaaGreatDoor
