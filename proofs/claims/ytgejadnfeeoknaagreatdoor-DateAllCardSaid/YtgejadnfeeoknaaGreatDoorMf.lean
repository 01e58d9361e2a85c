/- Layer 6: the reference's Weekday, two. -/
import Derived.Test.YtgejadnfeeoknaaGreatDoorMe
import Derived.Test.YtgejadnfeeoknaaGreatDoorMb
namespace Go.Proofs.YtgejadnfeeoknaaGreatDoor
open Go.RowKit Go.Extern.Stop Go.Stop Go.Extern Go.Sort
set_option linter.unusedVariables false
set_option linter.unusedSimpArgs false

set_option maxRecDepth 100000 in
theorem rweekday_calls (d : Int) (w : World) (h0 : 0 ≤ d) (h1 : d ≤ 109572) : Calls Tryz.prog 43 #[.int .i64 d] w fun e w' => e = .returned (.int .i64 ((d + 1) % 7)) ∧ w = w' := by
  go_enter Tryz.func43, Tryz.ntmps43
  go_wp2
  go_ret
  exact ⟨rfl, rfl⟩
/-- A number with i digits struck off; those digits. -/
def nAt : Nat → Nat → Nat
  | 0, n => n
  | i + 1, n => nAt i n / 10
def tAt : Nat → Nat → List UInt8
  | 0, _ => []
  | i + 1, n => ch (nAt i n) :: tAt i n
theorem nAt_le (i n : Nat) : nAt i n ≤ n := by
  induction i with
  | zero => exact Nat.le_refl _
  | succ i ih => exact Nat.le_trans (Nat.div_le_self _ _) ih
theorem tAt_len (i n : Nat) : (tAt i n).length = i := by
  induction i with
  | zero => rfl
  | succ i ih => show (tAt i n).length + 1 = i + 1; rw [ih]
theorem ch_nat (n : Nat) : ((ch n).toNat : Int) = 48 + (n : Int) % 10 := by
  unfold ch
  have h := Nat.mod_lt n (by decide : 0 < 10)
  show (((48 + n % 10) % 256 : Nat) : Int) = _
  omega
theorem conv_ch (wr : World) (x : Nat) : (convert 58 9 (.slice (some ⟨wr.heap.size, 0, none⟩) 1 1)).run Tryz.prog (wr.alloc (.cells #[.int .u8 (48 + (x : Int) % 10)] 5)) = .ok (.string ⟨#[ch x]⟩) (wr.alloc (.cells #[.int .u8 (48 + (x : Int) % 10)] 5)) := by
  rw [← ch_nat x]
  refine run_convert_bytes_back (P := Tryz.prog) (wr.alloc (.cells #[.int .u8 ((ch x).toNat : Int)] 5)) 58 9 5 ⟨wr.heap.size, 0, none⟩ 1 [ch x] (by kernel_rfl) (by kernel_rfl) (by kernel_rfl) (fun j hj => by
    have : j = 0 := by
      have h1 : j < 1 := hj
      omega
    subst this
    simp [Addr.add])
set_option maxRecDepth 100000 in
set_option maxHeartbeats 4000000 in
theorem two_calls (n k : Nat) (hn : n ≤ 9999) (hk : k ≤ 9) (w : World) : Calls Tryz.prog 65 #[.int .i64 n, .int .i64 k] w fun e w' => e = .returned (.string ⟨(tAt k n).toArray⟩) ∧ Gr w w' := by
  go_enter Tryz.func65, Tryz.ntmps65
  go_wp2
  go_loopg [0, 5, 6] k (fun g (x0 x5 x6 : Value) wr => ∃ i : Nat, i ≤ k ∧ g = k - i ∧ x0 = .int .i64 (nAt i n : Nat) ∧ x5 = .string ⟨(tAt i n).toArray⟩ ∧ x6 = .int .i64 i ∧ Gr w wr)
  case atStart => exact ⟨0, by omega, rfl, rfl, rfl, rfl, Gr.rf _⟩
  case round =>
    obtain ⟨i, hi, hg, rfl, rfl, rfl, hgr⟩ := hrel
    have hlei := nAt_le i n
    by_cases hik : i < k
    · have HG := Lib.hid hgr
      have kc := conv_ch wr (nAt i n)
      have hlen := tAt_len i n
      obtain ⟨S, hS⟩ : ∃ S : ByteArray, S = ⟨(tAt i n).toArray⟩ := ⟨_, rfl⟩
      obtain ⟨C, hC⟩ : ∃ C : ByteArray, C = ⟨#[ch (nAt i n)]⟩ := ⟨_, rfl⟩
      have hSz : S.size = i := by rw [hS]; exact hlen
      have hCz : C.size = 1 := by rw [hC]; rfl
      have HCC := Lib.hid (show C ++ S = ⟨(tAt (i + 1) n).toArray⟩ by rw [hC, hS]; exact ByteArray.ext (by simp [tAt, ByteArray.data_append]))
      rw [← hC] at kc
      rw [← hS]
      clear hS hC hlen
      have hd : decide ((i : Int) < k) = true := decide_eq_true (by omega)
      go_wp2
      go_roundg (k - (i + 1))
      case measure => omega
      case rel => exact ⟨i + 1, by omega, by omega, rfl, by rw [HCC.out], rfl, hgr.tr ((Gr.rf _).alloc (Nat.le_refl _) _)⟩
    · have hd : decide ((i : Int) < k) = false := decide_eq_false (by omega)
      go_wp2
      go_ret
      have : i = k := by omega
      subst this
      exact ⟨rfl, hgr⟩
theorem two4_calls (n : Nat) (h0 : 1000 ≤ n) (h : n < 10000) (w : World) : Calls Tryz.prog 65 #[.int .i64 (n : Int), .int .i64 4] w fun e w' => e = .returned (.string ⟨(pad 4 n).toArray⟩) ∧ Gr w w' := by
  rw [pad_four n h0 h]
  exact two_calls n 4 (by omega) (by omega) w
theorem two2_calls (n : Nat) (h : n < 100) (w : World) : Calls Tryz.prog 65 #[.int .i64 (n : Int), .int .i64 2] w fun e w' => e = .returned (.string ⟨(pad 2 n).toArray⟩) ∧ Gr w w' := by
  rw [pad_two n h]
  exact two_calls n 2 (by omega) (by omega) w
set_option maxRecDepth 100000 in
set_option maxHeartbeats 4000000 in
theorem rtext_calls (d y m k : Int) (h : IsDay d y m k) (w : World) :
    Calls Tryz.prog 42 #[.int .i64 d] w fun e w' => e = .returned (.string ⟨(dayL y.toNat m.toNat k.toNat).toArray⟩) ∧ Gr w w' := by
  obtain ⟨a, b, c, rfl, rfl, rfl, ha, ha', hb, hb', hc, hc'⟩ := isDay_nat h
  have HC := Lib.hid (fun w => refCivil_calls d a b c h w)
  have hi := fun w => refIs_calls d w
  simp only [decide_eq_true (isDay_range h)] at hi
  have HI := Lib.hid hi
  clear hi
  obtain ⟨A4, hA⟩ : ∃ A4 : ByteArray, A4 = ⟨(pad 4 a).toArray⟩ := ⟨_, rfl⟩
  obtain ⟨B2, hB⟩ : ∃ B2 : ByteArray, B2 = ⟨(pad 2 b).toArray⟩ := ⟨_, rfl⟩
  obtain ⟨C2, hC⟩ : ∃ C2 : ByteArray, C2 = ⟨(pad 2 c).toArray⟩ := ⟨_, rfl⟩
  have hPA := fun w => two4_calls a (by omega) (by omega) w
  have hPB := fun w => two2_calls b (by omega) w
  have hPC := fun w => two2_calls c (by omega) w
  rw [← hA] at hPA
  rw [← hB] at hPB
  rw [← hC] at hPC
  have HPA := Lib.hid hPA
  have HPB := Lib.hid hPB
  have HPC := Lib.hid hPC
  have sA : A4.size = 4 := by rw [hA, Lib.size_eq]; exact pad_len_four a (by omega) (by omega)
  have sB : B2.size = 2 := by rw [hB, Lib.size_eq]; exact pad_len_two b (by omega)
  have sC : C2.size = 2 := by rw [hC, Lib.size_eq]; exact pad_len_two c (by omega)
  have hcat : A4 ++ ⟨#[45]⟩ ++ B2 ++ ⟨#[45]⟩ ++ C2 = ⟨(dayL a b c).toArray⟩ := by
    apply ba_ext
    rw [cat_list, cat_list, cat_list, cat_list, hA, hB, hC]
    unfold dayL
    simp
  have HCC := Lib.hid hcat
  have s1 : (⟨#[45]⟩ : ByteArray).size = 1 := rfl
  rw [show ((a : Int)).toNat = a from rfl, show ((b : Int)).toNat = b from rfl, show ((c : Int)).toNat = c from rfl]
  clear hcat hPA hPB hPC hA hB hC h
  go_enter Tryz.func42, Tryz.ntmps42
  go_wp2_with (first
    | (go_at_call 62; (with_reducible refine (HI.out _).mono ?_); rintro ev w0 ⟨rfl, rfl⟩)
    | (go_at_call 40; (refine (HC.out _).mono ?_); rintro ev w1 ⟨rfl, hg1⟩))
  have hblk : (w1.alloc (.cells #[.int .i64 (a : Int), .int .i64 (b : Int), .int .i64 (c : Int)] 24)).heap[w1.heap.size]? = some (.cells #[.int .i64 (a : Int), .int .i64 (b : Int), .int .i64 (c : Int)] 24 (0, 0)) := heap_alloc_new w1 _
  have hga : Gr w (w1.alloc (.cells #[.int .i64 (a : Int), .int .i64 (b : Int), .int .i64 (c : Int)] 24)) := hg1.tr ((Gr.rf w1).alloc (Nat.le_refl _) _)
  generalize w1.alloc (.cells #[.int .i64 (a : Int), .int .i64 (b : Int), .int .i64 (c : Int)] 24) = W1 at hblk hga ⊢
  generalize w1.heap.size = bb at hblk ⊢
  have heldOf : ∀ w', Gr W1 w' → (w'.cell? ⟨bb, 0, none⟩ = some (.int .i64 (a : Int)) ∧ w'.cell? ⟨bb, 1, none⟩ = some (.int .i64 (b : Int)) ∧ w'.cell? ⟨bb, 2, none⟩ = some (.int .i64 (c : Int)) ∧ Gr W1 w') := fun w' hg =>
    ⟨heap_cell (hg.heap hblk) 0, heap_cell (hg.heap hblk) 1, heap_cell (hg.heap hblk) 2, hg⟩
  have hinit := Gr.rf W1
  have HO := Lib.hid heldOf
  clear heldOf
  go_region_held3 (fun w' => w'.cell? ⟨bb, 0, none⟩ = some (.int .i64 (a : Int)) ∧ w'.cell? ⟨bb, 1, none⟩ = some (.int .i64 (b : Int)) ∧ w'.cell? ⟨bb, 2, none⟩ = some (.int .i64 (c : Int)) ∧ Gr W1 w')
    (first | exact HO.out _ (by assumption) | exact HO.out _ (grOne (by assumption)) | (go_split_ands; exact HO.out _ (by assumption)) | (go_split_ands; exact HO.out _ (grOne (by assumption))))
    (first
      | (go_at_call 65; go_split_ands; (with_reducible refine (HPA.out _).mono ?_); rintro ev w2 ⟨rfl, hgn⟩; have hgm : Gr W1 w2 := Gr.tr (by assumption) hgn)
      | (go_at_call 65; go_split_ands; (with_reducible refine (HPB.out _).mono ?_); rintro ev w2 ⟨rfl, hgn⟩; have hgm : Gr W1 w2 := Gr.tr (by assumption) hgn)
      | (go_at_call 65; go_split_ands; (with_reducible refine (HPC.out _).mono ?_); rintro ev w2 ⟨rfl, hgn⟩; have hgm : Gr W1 w2 := Gr.tr (by assumption) hgn))
  go_wp2
  go_ret
  exact ⟨ret_str HCC.out, hga.tr (by assumption)⟩
end Go.Proofs.YtgejadnfeeoknaaGreatDoor
