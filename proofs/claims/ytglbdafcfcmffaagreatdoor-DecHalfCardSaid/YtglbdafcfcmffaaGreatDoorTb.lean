/- Layer 2: the long division's helpers by contract: guess, takes, gives. -/
import Derived.Test.YtglbdafcfcmffaaGreatDoorTa
import Derived.Test.YtglbdafcfcmffaaGreatDoorTg
import Derived.Test.YtglbdafcfcmffaaGreatDoorGf
import Derived.Test.YtglbdafcfcmffaaGreatDoorTq
namespace Go.Proofs.YtglbdafcfcmffaaGreatDoor
open Go.RowKit Go.Extern.Stop Go.Stop Go.Extern
set_option linter.unusedVariables false
set_option linter.unusedSimpArgs false

/-- Limbs in a block, from a place on. -/
def CellsAt (w : World) (g o n : Nat) (F : Nat → Nat) : Prop := g < w.heap.size ∧ ∀ j, j < n → w.cell? ⟨g, o + j, none⟩ = some (.int .u64 ((F j : Nat) : Int))
theorem CellsAt.gr {w w' : World} {g o n : Nat} {F : Nat → Nat} (h : CellsAt w g o n F) (hg : Gr w w') : CellsAt w' g o n F :=
  ⟨Nat.lt_of_lt_of_le h.1 hg.size, fun j hj => (hg.cell h.1).trans (h.2 j hj)⟩
theorem OwnF.cells {w : World} {g n : Nat} {F : Nat → Nat} (h : OwnF w g n F) (o m : Nat) (hm : o + m ≤ n) : CellsAt w g o m (fun j => F (o + j)) :=
  ⟨h.lt, fun j hj => h.cell (by omega)⟩

theorem grownBy_set {w w' : World} {g : Nat} (h : w.grownBy w' (some g)) (i : Nat) (v : Value) : w.grownBy (w'.setCell ⟨g, i, none⟩ v) (some g) :=
  ⟨h.os, h.tape, h.output, by have := h.size; simpa [World.setCell] using this, fun j hj hne => by
    rw [← h.block j hj hne]; exact Below.heap_setCell w' _ v j (by rintro rfl; exact hne rfl)⟩
theorem grownBy_alloc {w w' : World} {g : Nat} (h : w.grownBy w' (some g)) (o : Obj) : w.grownBy (w'.alloc o) (some g) :=
  ⟨h.os, h.tape, h.output, Nat.le_trans h.size (by simp), fun j hj hne => (Below.heap_alloc w' o j (Nat.lt_of_lt_of_le hj h.size)).trans (h.block j hj hne)⟩
theorem grownBy_rf (w : World) (g : Nat) : w.grownBy w (some g) := ⟨rfl, rfl, rfl, Nat.le_refl _, fun _ _ _ => rfl⟩
theorem grownBy_drew {w w' : World} {g : Nat} (h : w.grownBy w' (some g)) (k : Nat) : w.grownBy (w'.drewN k) (some g) := ⟨h.os, h.tape, h.output, h.size, h.block⟩
theorem grownBy_tr {w w' w2 : World} {g : Nat} (h : w.grownBy w' (some g)) (hg : Gr w' w2) : w.grownBy w2 (some g) :=
  ⟨hg.os.trans h.os, hg.tape.trans h.tape, hg.output.trans h.output, Nat.le_trans h.size hg.size, fun j hj hne => (hg.block j (Nat.lt_of_lt_of_le hj h.size)).trans (h.block j hj hne)⟩
theorem grownBy_two {w w' w2 : World} {g : Nat} (h : w.grownBy w' (some g)) (hg : w'.grownBy w2 (some g)) : w.grownBy w2 (some g) :=
  ⟨hg.os.trans h.os, hg.tape.trans h.tape, hg.output.trans h.output, Nat.le_trans h.size hg.size, fun j hj hne => (hg.block j (Nat.lt_of_lt_of_le hj h.size) hne).trans (h.block j hj hne)⟩
set_option maxRecDepth 100000 in
set_option maxHeartbeats 4000000 in
/-- nat.guess: not too small. -/
theorem guess_calls (gu ou cu gv ov cv n : Nat) (F G : Nat → Nat) (w : World) (hn : 2 ≤ n) (hnk : n ≤ 1000000) (hu : CellsAt w gu ou (n + 1) F) (hv : CellsAt w gv ov n G) (hF : ∀ j, F j < B) (hG : ∀ j, G j < B)
    (hlt : rv B F (n + 1) < B * rv B G n) :
    Calls Tryz.prog 184 #[.slice (some ⟨gu, ou, none⟩) (n + 1) cu, .slice (some ⟨gv, ov, none⟩) n cv] w fun e w' => (∃ q : Nat, e = .returned (.int .u64 (q : Int)) ∧ rv B F (n + 1) / rv B G n ≤ q ∧ q < B) ∧ Gr w w' := by
  have hgs := gs_of F G n hn (fun j _ => hF j)
  have hV : 0 < rv B G n := Nat.pos_of_ne_zero (by intro h; rw [h] at hlt; simp at hlt)
  have hmax : rv B F (n + 1) / rv B G n < B := (Nat.div_lt_iff_lt_mul hV).2 hlt
  have hcu2 := hu.2 n (by omega)
  have hcu1 := hu.2 (n - 1) (by omega)
  have hcu0 : ∀ w', Gr w w' → w'.cell? ⟨gu, ou + (n - 2), none⟩ = some (.int .u64 ((F (n - 2) : Nat) : Int)) := fun w' hg => (hu.gr hg).2 (n - 2) (by omega)
  have hcv1 := hv.2 (n - 1) (by omega)
  have hcv0 := hv.2 (n - 2) (by omega)
  have h2B := hF n
  have h1B := hF (n - 1)
  have h0B := hF (n - 2)
  have htB := hG (n - 1)
  have hsB := hG (n - 2)
  generalize rv B F (n + 1) = UU at *
  generalize rv B G n = VV at *
  generalize F n = x2 at *
  generalize F (n - 1) = x1 at *
  generalize F (n - 2) = x0 at *
  generalize G (n - 1) = t at *
  generalize G (n - 2) = s at *
  have HGS := Lib.hid hgs
  have HMX := Lib.hid hmax
  have HC0 := Lib.hid hcu0
  have i1 : ((n : Int) - 1).toNat = n - 1 := by omega
  have i2 : ((n : Int) - 2).toNat = n - 2 := by omega
  have hne : decide ((n : Int) < 1) = false := decide_eq_false (by omega)
  clear hgs hmax hcu0 hu hv hF hG hlt
  by_cases hge : t ≤ x2
  · have b1 : decide ((t : Int) ≤ (x2 : Int)) = true := decide_eq_true (by omega)
    have b1n : decide (t ≤ x2) = true := decide_eq_true hge
    go_enter Tryz.func184, Tryz.ntmps184
    go_wp2_with fail
    go_quiet (fail)
    go_wp2
    go_ret
    refine ⟨⟨18446744073709551615, rfl, ?_, by decide⟩, ?_⟩
    · have := HMX.out
      rw [B_eq] at this
      omega
    · first | exact Gr.rf _ | exact Gr.drew (Gr.rf _) _
  · have b1 : decide ((t : Int) ≤ (x2 : Int)) = false := decide_eq_false (by omega)
    have b1n : decide (t ≤ x2) = false := decide_eq_false hge
    have HD := Lib.hid (fun w' => div64_draws x2 x1 t htB h1B (by omega) w')
    have hst := guess_start HGS.out (by omega : 0 < t)
    have hdm := Nat.div_add_mod (x2 * B + x1) t
    have hml := Nat.mod_lt (x2 * B + x1) (by omega : 0 < t)
    have hqB := short_lt x2 x1 t (by omega) h1B
    generalize hq0 : (x2 * B + x1) / t = q0 at *
    generalize hr0 : (x2 * B + x1) % t = r0 at *
    have HST := Lib.hid hst
    have HDM := Lib.hid hdm
    have HQB := Lib.hid hqB
    have HML := Lib.hid hml
    clear hst hdm hq0 hr0 hqB hml
    go_enter Tryz.func184, Tryz.ntmps184
    have hlt1 : (n : Int) < (n : Int) + 1 := by omega
    have hlt2 : (n : Int) - 1 < (n : Int) + 1 := by omega
    have hlt3 : (1 : Int) ≤ (n : Int) := by omega
    have hlt4 : (2 : Int) ≤ (n : Int) := by omega
    have hw1 : IntKind.i64.wrap ((n : Int) - 1) = (n : Int) - 1 := by rw [IntKind.wrap_i64]; omega
    have hlt5 : (n : Int) - 2 < (n : Int) + 1 := by omega
    have hw2 : IntKind.i64.wrap ((n : Int) - 2) = (n : Int) - 2 := by rw [IntKind.wrap_i64]; omega
    go_wp2_with fail
    go_quiet (fail)
    go_wp2_with fail
    go_quiet ((go_at_call 165; exact (HD.out _).mono fun _ _ ⟨he, m, hm⟩ => ⟨he, (by rw [hm, World.drewN_drewN, Nat.add_assoc]; exact ⟨_, rfl⟩)⟩))
    go_wp2_with fail
    go_loopg [8, 9] q0 (fun k sq sr wr => ∃ q r : Nat, k = q ∧ sq = .int .u64 (q : Int) ∧ sr = .int .u64 (r : Int) ∧ q < B ∧ r < B ∧ Hid (q * t + r = x2 * B + x1) ∧ Hid (UU / VV ≤ q) ∧ Gr w wr)
    case atStart => exact ⟨q0, r0, rfl, rfl, rfl, HQB.out, Nat.lt_trans HML.out htB, Lib.hid (by rw [Nat.mul_comm]; exact HDM.out), HST, by first | exact Gr.drew (Gr.rf w) _ | exact Gr.drew (Gr.drew (Gr.rf w) _) _⟩
    case round =>
      obtain ⟨q, r, hk, rfl, rfl, hqB, hrB, HQR, HUV, hgr⟩ := hrel
      have HKQ := Lib.hid hk
      clear hk
      have hc0 := HC0.out wr hgr
      have hmu := mu_eq q s
      have hlo := muLo_lt q s
      have hhi := muHi_le q s hqB hsB
      have HMU := Lib.hid (fun w' => mul64_calls q s hqB hsB w')
      have hask := guess_ask q s r x0 (muHi q s) (muLo q s) hmu hlo h0B
      generalize muHi q s = hi at *
      generalize muLo q s = lo at *
      have HAS := Lib.hid hask
      clear hask hmu
      by_cases hgo : hi < r ∨ (hi = r ∧ lo ≤ x0)
      · have HGO := Lib.hid hgo
        rcases hgo with h1 | ⟨h1, h2⟩
        · have b1 : decide ((hi : Int) < (r : Int)) = true := decide_eq_true (by omega)
          have b1n : decide (hi < r) = true := decide_eq_true h1
          go_wp2_with (go_at_call 122; (with_reducible refine (HMU.out _).mono ?_); rintro ev w2 ⟨rfl, rfl⟩)
          go_ret
          exact ⟨⟨q, rfl, HUV.out, hqB⟩, by first | exact hgr | exact Gr.drew hgr _⟩
        · subst h1
          have b1 : decide ((hi : Int) < (hi : Int)) = false := decide_eq_false (by omega)
          have b1n : decide (hi < hi) = false := decide_eq_false (by omega)
          have b2 : ((hi : Int) == (hi : Int)) = true := beq_iff_eq.2 rfl
          have b3 : decide ((lo : Int) ≤ (x0 : Int)) = true := decide_eq_true (by omega)
          have b3n : decide (lo ≤ x0) = true := decide_eq_true h2
          go_wp2_with (go_at_call 122; (with_reducible refine (HMU.out _).mono ?_); rintro ev w2 ⟨rfl, rfl⟩)
          go_ret
          exact ⟨⟨q, rfl, HUV.out, hqB⟩, by first | exact hgr | exact Gr.drew hgr _⟩
      · have hm := HAS.out (fun h => hgo (.inl h)) (fun h => hgo (.inr h))
        obtain ⟨m1, m2⟩ := guess_more HGS.out HQR.out hm
        have b1 : decide ((hi : Int) < (r : Int)) = false := decide_eq_false (by omega)
        have b1n : decide (hi < r) = false := decide_eq_false (fun h => hgo (.inl h))
        have hqe : (q - 1) * t + (r + t) = x2 * B + x1 := by
          have := HQR.out
          have e : q * t = (q - 1) * t + t := by
            conv => lhs; rw [show q = q - 1 + 1 by omega]
            rw [Nat.add_mul, Nat.one_mul]
          omega
        have had : (∀ w, (callFunc 123 #[.int .u64 ((r : Nat) : Int), .int .u64 ((t : Nat) : Int), .int .u64 0]).run Tryz.prog w = .ok (.value (.tuple #[.int .u64 ((adLo r t 0 : Nat) : Int), .int .u64 ((adHi r t 0 : Nat) : Int)])) w) := add64_run r t 0 hrB htB (by omega)
        have hade := ad_eq r t 0
        have hal := adLo_lt r t 0
        have hah := adHi_le r t 0 hrB htB (by omega)
        have hqi : (q : Int) - 1 = ((q - 1 : Nat) : Int) := by omega
        have hwq : IntKind.u64.wrap ((q - 1 : Nat) : Int) = ((q - 1 : Nat) : Int) := wrapN _ (by omega)
        have M2 := Lib.hid m2
        have HQE := Lib.hid hqe
        clear hm hqe m2
        generalize adLo r t 0 = lo2 at *
        generalize adHi r t 0 = c2 at *
        have HAE := Lib.hid hade
        clear hade
        by_cases hir : hi = r
        case' pos =>
          have b2 : ((hi : Int) == (r : Int)) = true := beq_iff_eq.2 (by omega)
          have b3 : decide ((lo : Int) ≤ (x0 : Int)) = false := decide_eq_false (fun h => hgo (.inr ⟨hir, by omega⟩))
          have b3n : decide (lo ≤ x0) = false := decide_eq_false (fun h => hgo (.inr ⟨hir, h⟩))
        case' neg =>
          have b2 : ((hi : Int) == (r : Int)) = false := beq_eq_false_iff_ne.2 (by omega)
        all_goals
          clear hgo hir
          by_cases hc2 : c2 = 0
          · subst hc2
            go_wp2_with (go_at_call 122; (with_reducible refine (HMU.out _).mono ?_); rintro ev w2 ⟨rfl, rfl⟩)
            go_roundg (q - 1)
            case measure => have := HKQ.out; omega
            case rel => exact ⟨q - 1, lo2, rfl, by first | rfl | go_num, rfl, by omega, hal, Lib.hid (by rw [← HQE.out]; have := HAE.out; omega), M2, by first | exact hgr | exact Gr.drew hgr _⟩
          · obtain rfl : c2 = 1 := by omega
            go_wp2_with (go_at_call 122; (with_reducible refine (HMU.out _).mono ?_); rintro ev w2 ⟨rfl, rfl⟩)
            go_ret
            exact ⟨⟨q - 1, ret_int (by omega), M2.out, by omega⟩, by first | exact hgr | exact Gr.drew hgr _⟩

theorem bne_cast (n : Nat) : ((n : Int) != 0) = (n != 0) := by
  cases n with
  | zero => rfl
  | succ n => rw [bne_iff_ne.2 (by omega), bne_iff_ne.2 (by omega)]
theorem cell_of_block {w w' : World} {g i : Nat} (e : w'.heap[g]? = w.heap[g]?) : w'.cell? ⟨g, i, none⟩ = w.cell? ⟨g, i, none⟩ := by
  simp only [World.cell?, e]
theorem CellsAt.grown {w w' : World} {g o n k : Nat} {F : Nat → Nat} (h : CellsAt w g o n F) (hg : w.grownBy w' (some k)) (hne : g ≠ k) : CellsAt w' g o n F :=
  ⟨Nat.lt_of_lt_of_le h.1 hg.size, fun j hj => by
    rw [← h.2 j hj]
    exact cell_of_block (hg.block g h.1 (fun e => hne (by injection e)))⟩

set_option maxRecDepth 100000 in
set_option maxHeartbeats 4000000 in
/-- nat.takes. -/
theorem takes_calls (gu ou cu gv ov cv q N : Nat) (l : List Nat) (F : Nat → Nat) (w : World) (hu : OwnF w gu N F) (hN : ou + (l.length + 1) ≤ N) (hv : CellsAt w gv ov l.length (l.getD · 0)) (hl : Limbs l) (hne : gv ≠ gu) (hF : ∀ j, F j < B) (hq : q < B) (hn : l.length ≤ 1000000) :
    Calls Tryz.prog 185 #[.slice (some ⟨gu, ou, none⟩) (l.length + 1) cu, .slice (some ⟨gv, ov, none⟩) l.length cv, .int .u64 (q : Int)] w fun e w' =>
      ∃ (F2 : Nat → Nat) (b2 : Nat), e = .returned (.bool (b2 != 0)) ∧ b2 ≤ 1 ∧ OwnF w' gu N F2 ∧ (∀ j, F2 j < B) ∧ (∀ j, j < ou → F2 j = F j) ∧
        rv B (fun j => F2 (ou + j)) (l.length + 1) + q * val l = rv B (fun j => F (ou + j)) (l.length + 1) + B ^ (l.length + 1) * b2 ∧ w.grownBy w' (some gu) := by
  have HU := Lib.hid hu
  have HV := Lib.hid hv
  have HLM := Lib.hid hl
  have HF := Lib.hid hF
  clear hu hv hl hF
  go_enter Tryz.func185, Tryz.ntmps185
  go_wp2
  go_loopg [7, 8, 16] l.length (fun k sc sb si wr => ∃ (i c b : Nat) (F2 : Nat → Nat), k = l.length - i ∧ i ≤ l.length ∧ sc = .int .u64 (c : Int) ∧ sb = .int .u64 (b : Int) ∧ si = .int .i64 (i : Int) ∧ c < B ∧ b ≤ 1 ∧ Hid (OwnF wr gu N F2) ∧ Hid (∀ j, F2 j < B) ∧ Hid (∀ j, j < ou ∨ ou + i ≤ j → F2 j = F j) ∧
    Hid (rv B (fun j => F2 (ou + j)) i + q * val (l.take i) = rv B (fun j => F (ou + j)) i + B ^ i * (b + c)) ∧ Hid (w.grownBy wr (some gu)))
  case atStart => exact ⟨0, 0, 0, F, rfl, Nat.zero_le _, rfl, rfl, rfl, B_pos, by omega, HU, HF, Lib.hid (fun _ _ => rfl), Lib.hid (by simp [rv_zero, val]), Lib.hid (grownBy_rf w gu)⟩
  case round =>
    obtain ⟨i, c, b, F2, hk, hi, rfl, rfl, rfl, hcB, hb1, HO, HB2, HE, HVV, HG⟩ := hrel
    have HK := Lib.hid hk
    clear hk
    by_cases hlt : i < l.length
    · have b1 : decide (i < l.length) = true := decide_eq_true hlt
      have hxB := getD_lt HLM.out i
      have hcell := HO.out.cell (i := ou + i) (by omega)
      have hfr := HO.out.frozen (ou + i)
      have hcv := (HV.out.grown HG.out hne).2 i hlt
      dsimp only at hcv
      have hfB := HB2.out (ou + i)
      have hmu := mu_eq q (l.getD i 0)
      have hml := muLo_lt q (l.getD i 0)
      have hmh := muHi_le q (l.getD i 0) hq hxB
      have HMU := Lib.hid (fun w' => mul64_calls q (l.getD i 0) hq hxB w')
      have hFe := HE.out (ou + i) (.inr (Nat.le_refl _))
      have hst := fun c2 b2 lo d h1 h2 => takes_step (fun j => F (ou + j)) (fun j => F2 (ou + j)) l i q b c b2 c2 lo d HVV.out h1 h2
      try dsimp only at hst
      rw [← hFe] at hst
      generalize muHi q (l.getD i 0) = hi' at *
      generalize muLo q (l.getD i 0) = lo at *
      generalize l.getD i 0 = x at *
      generalize F2 (ou + i) = f at *
      have had : (∀ w, (callFunc 123 #[.int .u64 ((lo : Nat) : Int), .int .u64 ((c : Nat) : Int), .int .u64 0]).run Tryz.prog w = .ok (.value (.tuple #[.int .u64 ((adLo lo c 0 : Nat) : Int), .int .u64 ((adHi lo c 0 : Nat) : Int)])) w) := add64_run lo c 0 hml hcB (by omega)
      have hae := ad_eq lo c 0
      have hal := adLo_lt lo c 0
      have hah := adHi_le lo c 0 hml hcB (by omega)
      generalize adLo lo c 0 = lo2 at *
      generalize adHi lo c 0 = cc at *
      have hsb := sub64_run f lo2 b hb1
      have hse := su_eq f lo2 b hfB hal hb1
      have hsl := suLo_lt f lo2 b
      have hsh := suHi_le f lo2 b
      generalize suLo f lo2 b = d at *
      generalize suHi f lo2 b = b2 at *
      have HST := Lib.hid (hst (hi' + cc) b2 lo2 d (by rw [← hmu, Nat.mul_add]; omega) hse)
      have hw : hi' + cc < B := by have := B_eq; omega
      have hw2 : hi' + cc ≤ 18446744073709551615 := by have := B_eq; omega
      have HW := Lib.hid hw
      have HSL := Lib.hid hsl
      clear hst hmu hae hse hFe hw hsl
      go_wp2_with (go_at_call 122; (with_reducible refine (HMU.out _).mono ?_); rintro ev w2 ⟨rfl, rfl⟩)
      go_roundg (l.length - (i + 1))
      case measure => have := HK.out; omega
      case rel => exact ⟨i + 1, hi' + cc, b2, (fun j => if j = ou + i then d else F2 j), rfl, by omega, by first | rfl | go_num, rfl, by first | rfl | go_num, HW.out, hsh, Lib.hid (HO.out.set (ou + i) d),
        Lib.hid (fun j => by dsimp only; split; exact HSL.out; exact HB2.out j), Lib.hid (fun j hj => (if_neg (by omega : ¬ j = ou + i)).trans (HE.out j (by omega))),
        Lib.hid (by
          have e := HST.out
          rw [rv_congr B (G := fun j => if j = i then d else F2 (ou + j)) (fun j hj => by dsimp only; by_cases h : j = i; (subst h; rw [if_pos rfl, if_pos rfl]); (rw [if_neg h, if_neg (by omega)]))]
          exact e), Lib.hid (grownBy_set HG.out _ _)⟩
    · obtain rfl : i = l.length := by omega
      have b1 : decide (l.length < l.length) = false := decide_eq_false (by omega)
      have hcell := HO.out.cell (i := ou + l.length) (by omega)
      have hfr := HO.out.frozen (ou + l.length)
      have hfB := HB2.out (ou + l.length)
      have hFe := HE.out (ou + l.length) (.inr (Nat.le_refl _))
      have hst := fun b2 d h => takes_last (fun j => F (ou + j)) (fun j => F2 (ou + j)) l l.length q b c b2 d rfl HVV.out h
      try dsimp only at hst
      rw [← hFe] at hst
      generalize F2 (ou + l.length) = f at *
      have hsb := sub64_run f c b hb1
      have hse := su_eq f c b hfB hcB hb1
      have hsl := suLo_lt f c b
      have hsh := suHi_le f c b
      generalize suLo f c b = d at *
      generalize suHi f c b = b2 at *
      have HST := Lib.hid (hst b2 d hse)
      have HSL := Lib.hid hsl
      clear hst hse hFe hsl
      go_wp2
      go_ret
      exact ⟨(fun j => if j = ou + l.length then d else F2 j), b2, ret_bool (bne_cast b2), hsh, HO.out.set (ou + l.length) d, fun j => by dsimp only; split; exact HSL.out; exact HB2.out j, fun j hj => (if_neg (by omega : ¬ j = ou + l.length)).trans (HE.out j (by omega)), by
        have e := HST.out
        rw [rv_congr B (G := fun j => if j = l.length then d else F2 (ou + j)) (fun j hj => by dsimp only; by_cases h : j = l.length; (subst h; rw [if_pos rfl, if_pos rfl]); (rw [if_neg h, if_neg (by omega)]))]
        exact e, grownBy_set HG.out _ _⟩

set_option maxRecDepth 100000 in
set_option maxHeartbeats 4000000 in
/-- nat.gives. -/
theorem gives_calls (gu ou cu gv ov cv N : Nat) (l : List Nat) (F : Nat → Nat) (w : World) (hu : OwnF w gu N F) (hN : ou + (l.length + 1) ≤ N) (hv : CellsAt w gv ov l.length (l.getD · 0)) (hl : Limbs l) (hne : gv ≠ gu) (hF : ∀ j, F j < B) (hn : l.length ≤ 1000000) :
    Calls Tryz.prog 186 #[.slice (some ⟨gu, ou, none⟩) (l.length + 1) cu, .slice (some ⟨gv, ov, none⟩) l.length cv] w fun e w' =>
      ∃ (F2 : Nat → Nat) (k : Nat), e = .returned (.tuple #[]) ∧ OwnF w' gu N F2 ∧ (∀ j, F2 j < B) ∧ (∀ j, j < ou → F2 j = F j) ∧
        rv B (fun j => F2 (ou + j)) (l.length + 1) + B ^ (l.length + 1) * k = rv B (fun j => F (ou + j)) (l.length + 1) + val l ∧ w.grownBy w' (some gu) := by
  have HU := Lib.hid hu
  have HV := Lib.hid hv
  have HLM := Lib.hid hl
  have HF := Lib.hid hF
  clear hu hv hl hF
  go_enter Tryz.func186, Tryz.ntmps186
  go_wp2
  go_loopg [4, 9] l.length (fun k sc si wr => ∃ (i c : Nat) (F2 : Nat → Nat), k = l.length - i ∧ i ≤ l.length ∧ sc = .int .u64 (c : Int) ∧ si = .int .i64 (i : Int) ∧ c ≤ 1 ∧ Hid (OwnF wr gu N F2) ∧ Hid (∀ j, F2 j < B) ∧ Hid (∀ j, j < ou ∨ ou + i ≤ j → F2 j = F j) ∧
    Hid (rv B (fun j => F2 (ou + j)) i + B ^ i * c = rv B (fun j => F (ou + j)) i + val (l.take i)) ∧ Hid (w.grownBy wr (some gu)))
  case atStart => exact ⟨0, 0, F, rfl, Nat.zero_le _, rfl, rfl, by omega, HU, HF, Lib.hid (fun _ _ => rfl), Lib.hid (by simp [rv_zero, val]), Lib.hid (grownBy_rf w gu)⟩
  case round =>
    obtain ⟨i, c, F2, hk, hi, rfl, rfl, hc1, HO, HB2, HE, HVV, HG⟩ := hrel
    have HK := Lib.hid hk
    clear hk
    by_cases hlt : i < l.length
    · have b1 : decide (i < l.length) = true := decide_eq_true hlt
      have hxB := getD_lt HLM.out i
      have hcell := HO.out.cell (i := ou + i) (by omega)
      have hfr := HO.out.frozen (ou + i)
      have hcv := (HV.out.grown HG.out hne).2 i hlt
      dsimp only at hcv
      have hfB := HB2.out (ou + i)
      have hFe := HE.out (ou + i) (.inr (Nat.le_refl _))
      have hst := fun c2 d h2 => gives_step (fun j => F (ou + j)) (fun j => F2 (ou + j)) l i c c2 d HVV.out h2
      try dsimp only at hst
      rw [← hFe] at hst
      generalize l.getD i 0 = x at *
      generalize F2 (ou + i) = f at *
      have had := add64_run f x c hfB hxB hc1
      have hae := ad_eq f x c
      have hal := adLo_lt f x c
      have hah := adHi_le f x c hfB hxB hc1
      generalize adLo f x c = d at *
      generalize adHi f x c = c2 at *
      have HST := Lib.hid (hst c2 d hae)
      have HSL := Lib.hid hal
      clear hst hae hFe hal
      go_wp2
      go_roundg (l.length - (i + 1))
      case measure => have := HK.out; omega
      case rel => exact ⟨i + 1, c2, (fun j => if j = ou + i then d else F2 j), rfl, by omega, rfl, by first | rfl | go_num, hah, Lib.hid (HO.out.set (ou + i) d),
        Lib.hid (fun j => by dsimp only; split; exact HSL.out; exact HB2.out j), Lib.hid (fun j hj => (if_neg (by omega : ¬ j = ou + i)).trans (HE.out j (by omega))),
        Lib.hid (by
          have e := HST.out
          rw [rv_congr B (G := fun j => if j = i then d else F2 (ou + j)) (fun j hj => by dsimp only; by_cases h : j = i; (subst h; rw [if_pos rfl, if_pos rfl]); (rw [if_neg h, if_neg (by omega)]))]
          exact e), Lib.hid (grownBy_set HG.out _ _)⟩
    · obtain rfl : i = l.length := by omega
      have b1 : decide (l.length < l.length) = false := decide_eq_false (by omega)
      have hcell := HO.out.cell (i := ou + l.length) (by omega)
      have hfr := HO.out.frozen (ou + l.length)
      have hFe := HE.out (ou + l.length) (.inr (Nat.le_refl _))
      have hst := gives_last (fun j => F (ou + j)) (fun j => F2 (ou + j)) l l.length c rfl HVV.out
      try dsimp only at hst
      rw [← hFe] at hst
      generalize F2 (ou + l.length) = f at *
      have hwr := wrapM (f + c)
      have e1 : ((f + c : Nat) : Int) = (f : Int) + (c : Int) := by omega
      rw [e1] at hwr
      have hml := Nat.mod_lt (f + c) B_pos
      generalize (f + c) % B = d at *
      generalize (f + c) / B = k2 at *
      have HST := Lib.hid hst
      have HSL := Lib.hid hml
      clear hst hFe hml e1
      go_wp2
      go_end0
      exact ⟨(fun j => if j = ou + l.length then d else F2 j), k2, rfl, HO.out.set (ou + l.length) d, fun j => by dsimp only; split; exact HSL.out; exact HB2.out j, fun j hj => (if_neg (by omega : ¬ j = ou + l.length)).trans (HE.out j (by omega)), by
        have e := HST.out
        rw [rv_congr B (G := fun j => if j = l.length then d else F2 (ou + j)) (fun j hj => by dsimp only; by_cases h : j = l.length; (subst h; rw [if_pos rfl, if_pos rfl]); (rw [if_neg h, if_neg (by omega)]))]
        exact e, grownBy_set HG.out _ _⟩
end Go.Proofs.YtglbdafcfcmffaaGreatDoor
