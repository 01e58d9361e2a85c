/- Layer 6: count.Days of no days; the program's and the reference's beside one another. -/
import Derived.Test.YtcjjgdoafkdeaaaGreatDoorXm
import Derived.Test.YtcjjgdoafkdeaaaGreatDoorWf
namespace Go.Proofs.YtcjjgdoafkdeaaaGreatDoor
open Go.RowKit Go.Extern.Stop Go.Stop Go.Extern
set_option linter.unusedVariables false
set_option linter.unusedSimpArgs false

set_option maxRecDepth 100000 in
set_option maxHeartbeats 8000000 in
theorem cdays_ab (k a b : Int) (ha : okD a = false) (hb : okD b = false) (w : World) : Calls Tryz.prog 50 #[.int .i64 k, .int .i64 a, .int .i64 b] w fun e w' => e = .returned (.int .i64 0) ∧ Gr w w' := by
  have HC := Lib.hid (fun w => civil_no a w (okD_f ha))
  clear ha
  have HD := Lib.hid (fun w => civil_no b w (okD_f hb))
  clear hb
  go_enter Tryz.func50, Tryz.ntmps50
  go_wp2_with ((go_at_call 99; (with_reducible refine (HC.out _).mono ?_); rintro ev w1 ⟨rfl, hg1⟩))
  have hga : Gr w (w1.alloc (.cells #[.int .i64 0, .int .i64 0, .int .i64 0] 131)) := hg1.tr ((Gr.rf w1).alloc (Nat.le_refl _) _)
  generalize w1.alloc (.cells #[.int .i64 0, .int .i64 0, .int .i64 0] 131) = W1 at hga ⊢
  have HGA := Lib.hid hga
  clear hga hg1
  go_wp2_with fail
  refine (HD.out _).mono ?_
  rintro ev w2 ⟨rfl, hg2⟩
  have HG2 := Lib.hid hg2
  clear hg2
  go_wp2
  go_ret
  exact ⟨rfl, (HGA.out.tr HG2.out).tr ((Gr.rf w2).alloc (Nat.le_refl _) _)⟩
set_option maxRecDepth 100000 in
set_option maxHeartbeats 8000000 in
theorem cdays_a (k a b : Int) (ha : okD a = false) (hb : okD b = true) (w : World) : Calls Tryz.prog 50 #[.int .i64 k, .int .i64 a, .int .i64 b] w fun e w' => e = .returned (.int .i64 0) ∧ Gr w w' := by
  have HC := Lib.hid (fun w => civil_no a w (okD_f ha))
  clear ha
  obtain ⟨yb, mb, kb, ib⟩ := isDay_of b (okD_t hb).1 (okD_t hb).2
  have HD := Lib.hid (fun w => civil_calls b yb mb kb ib w)
  clear ib hb
  go_enter Tryz.func50, Tryz.ntmps50
  go_wp2_with ((go_at_call 99; (with_reducible refine (HC.out _).mono ?_); rintro ev w1 ⟨rfl, hg1⟩))
  have hga : Gr w (w1.alloc (.cells #[.int .i64 0, .int .i64 0, .int .i64 0] 131)) := hg1.tr ((Gr.rf w1).alloc (Nat.le_refl _) _)
  generalize w1.alloc (.cells #[.int .i64 0, .int .i64 0, .int .i64 0] 131) = W1 at hga ⊢
  have HGA := Lib.hid hga
  clear hga hg1
  go_wp2_with fail
  refine (HD.out _).mono ?_
  rintro ev w2 ⟨rfl, hg2⟩
  have HG2 := Lib.hid hg2
  clear hg2
  go_wp2
  go_ret
  exact ⟨rfl, (HGA.out.tr HG2.out).tr ((Gr.rf w2).alloc (Nat.le_refl _) _)⟩
set_option maxRecDepth 100000 in
set_option maxHeartbeats 8000000 in
theorem cdays_b (k a b : Int) (ha : okD a = true) (hb : okD b = false) (w : World) : Calls Tryz.prog 50 #[.int .i64 k, .int .i64 a, .int .i64 b] w fun e w' => e = .returned (.int .i64 0) ∧ Gr w w' := by
  obtain ⟨ya, ma, ka, ia⟩ := isDay_of a (okD_t ha).1 (okD_t ha).2
  have HC := Lib.hid (fun w => civil_calls a ya ma ka ia w)
  clear ia ha
  have HD := Lib.hid (fun w => civil_no b w (okD_f hb))
  clear hb
  go_enter Tryz.func50, Tryz.ntmps50
  go_wp2_with ((go_at_call 99; (with_reducible refine (HC.out _).mono ?_); rintro ev w1 ⟨rfl, hg1⟩))
  have hga : Gr w (w1.alloc (.cells #[.int .i64 ya, .int .i64 ma, .int .i64 ka] 131)) := hg1.tr ((Gr.rf w1).alloc (Nat.le_refl _) _)
  generalize w1.alloc (.cells #[.int .i64 ya, .int .i64 ma, .int .i64 ka] 131) = W1 at hga ⊢
  have HGA := Lib.hid hga
  clear hga hg1
  go_wp2_with fail
  refine (HD.out _).mono ?_
  rintro ev w2 ⟨rfl, hg2⟩
  have HG2 := Lib.hid hg2
  clear hg2
  go_wp2
  go_ret
  exact ⟨rfl, (HGA.out.tr HG2.out).tr ((Gr.rf w2).alloc (Nat.le_refl _) _)⟩
set_option maxRecDepth 100000 in
set_option maxHeartbeats 8000000 in
theorem cdays_k (k a b : Int) (ha : okD a = true) (hb : okD b = true) (hk : k < 1 ∨ 4 < k) (w : World) : Calls Tryz.prog 50 #[.int .i64 k, .int .i64 a, .int .i64 b] w fun e w' => e = .returned (.int .i64 0) ∧ Gr w w' := by
  obtain ⟨ya, ma, ka, ia⟩ := isDay_of a (okD_t ha).1 (okD_t ha).2
  have HC := Lib.hid (fun w => civil_calls a ya ma ka ia w)
  clear ia ha
  obtain ⟨yb, mb, kb, ib⟩ := isDay_of b (okD_t hb).1 (okD_t hb).2
  have HD := Lib.hid (fun w => civil_calls b yb mb kb ib w)
  clear ib hb
  have hmy := fun w => cmay_calls k w
  rw [show decide ((1 : Int) ≤ k ∧ k ≤ (4 : Int)) = false from decide_eq_false (by omega)] at hmy
  have HMY := Lib.hid hmy
  clear hmy
  clear hk
  go_enter Tryz.func50, Tryz.ntmps50
  go_wp2_with ((go_at_call 99; (with_reducible refine (HC.out _).mono ?_); rintro ev w1 ⟨rfl, hg1⟩))
  have hga : Gr w (w1.alloc (.cells #[.int .i64 ya, .int .i64 ma, .int .i64 ka] 131)) := hg1.tr ((Gr.rf w1).alloc (Nat.le_refl _) _)
  generalize w1.alloc (.cells #[.int .i64 ya, .int .i64 ma, .int .i64 ka] 131) = W1 at hga ⊢
  have HGA := Lib.hid hga
  clear hga hg1
  go_wp2_with fail
  refine (HD.out _).mono ?_
  rintro ev w2 ⟨rfl, hg2⟩
  have HG2 := Lib.hid hg2
  clear hg2
  go_wp2_with (go_at_call 52; (with_reducible refine (HMY.out _).mono ?_); rintro ev w3 ⟨rfl, rfl⟩)
  go_ret
  exact ⟨rfl, (HGA.out.tr HG2.out).tr ((Gr.rf w2).alloc (Nat.le_refl _) _)⟩
def PE (k a b s t f c : Int) : Prop := (∀ w, Calls Tryz.prog 47 #[.int .i64 k, .int .i64 a, .int .i64 b, .int .i64 s, .int .i64 t, .int .i64 f] w fun e w' => e = .returned (.tuple #[.pointer none, .iface 169 (.int .i64 c)]) ∧ Gr w w') ∧ (∀ w, Calls Tryz.prog 48 #[.int .i64 k, .int .i64 a, .int .i64 b, .int .i64 s, .int .i64 t, .int .i64 f] w fun e w' => e = .returned (.tuple #[QZ, .int .i64 c]) ∧ Gr w w')
def PK (k a b s t f z e : Int) : Prop := (∀ w, BitTab w → Calls Tryz.prog 47 #[.int .i64 k, .int .i64 a, .int .i64 b, .int .i64 s, .int .i64 t, .int .i64 f] w (PartIs z e w)) ∧ (∀ w, Calls Tryz.prog 48 #[.int .i64 k, .int .i64 a, .int .i64 b, .int .i64 s, .int .i64 t, .int .i64 f] w (QIs z e w))
def DK (k a b x : Int) : Prop := (∀ w, Calls Tryz.prog 50 #[.int .i64 k, .int .i64 a, .int .i64 b] w fun e w' => e = .returned (.int .i64 x) ∧ Gr w w') ∧ (∀ w, Calls Tryz.prog 51 #[.int .i64 k, .int .i64 a, .int .i64 b] w fun e w' => e = .returned (.int .i64 x) ∧ Gr w w')
theorem cdays_ex (k a b : Int) : ∃ x, DK k a b x := by
  cases ha : okD a
  · cases hb : okD b
    · exact ⟨0, cdays_ab k a b ha hb, rdays_a k a b ha⟩
    · exact ⟨0, cdays_a k a b ha hb, rdays_a k a b ha⟩
  · cases hb : okD b
    · exact ⟨0, cdays_b k a b ha hb, rdays_b k a b ha hb⟩
    · by_cases h1 : k < 1
      · exact ⟨0, cdays_k k a b ha hb (.inl h1), rdays_lo k a b ha hb h1⟩
      by_cases h4 : 4 < k
      · exact ⟨0, cdays_k k a b ha hb (.inr h4), rdays_hi k a b ha hb h4⟩
      obtain ⟨y, m, q, h⟩ := isDay_of a (okD_t ha).1 (okD_t ha).2
      obtain ⟨y', m', q', h'⟩ := isDay_of b (okD_t hb).1 (okD_t hb).2
      by_cases hk : k = 1
      · subst hk
        exact ⟨_, fun w => days30_calls a b y m q y' m' q' h h' w, fun w => rdays_30 a b y m q y' m' q' h h' ha hb w⟩
      · exact ⟨b - a, fun w => daysK_calls k a b y m q y' m' q' (by omega) h h' w, rdays_k k a b (by omega) ha hb⟩
theorem cparts_ex (k a b s t f : Int) (hf : f ≤ 1000) : (∃ c, (c = 1 ∨ c = 4 ∨ c = 2) ∧ PE k a b s t f c) ∨ (∃ z e, (1 ≤ k ∧ k ≤ 4) ∧ (e ≠ 0 ∧ -200000 ≤ z ∧ z ≤ 200000 ∧ 0 ≤ e ∧ e ≤ 200000000) ∧ PK k a b s t f z e) := by
  by_cases h1 : k < 1
  · exact .inl ⟨1, .inl rfl, part_kind k a b s t f (.inl h1), rpart_lo k a b s t f h1⟩
  by_cases h4 : 4 < k
  · exact .inl ⟨1, .inl rfl, part_kind k a b s t f (.inr h4), rpart_hi k a b s t f h4⟩
  cases ha : okD a
  · exact .inl ⟨4, .inr (.inl rfl), part_a k a b s t f (by omega) (by omega) ha, rpart_a k a b s t f (by omega) (by omega) ha⟩
  cases hb : okD b
  · exact .inl ⟨4, .inr (.inl rfl), part_b k a b s t f (by omega) (by omega) ha hb, rpart_b k a b s t f (by omega) (by omega) ha hb⟩
  by_cases hab : b < a
  · refine .inl ⟨4, .inr (.inl rfl), part_ab k a b s t f (by omega) (by omega) ha hb hab, ?_⟩
    by_cases hk : k ≤ 3
    · exact rpart_ab k a b s t f (by omega) hk ha hb hab
    · obtain rfl : k = 4 := by omega
      cases hs : okD s
      · exact rpart_s 4 a b s t f ha hb hs
      cases ht : okD t
      · exact rpart_t 4 a b s t f ha hb hs ht
      exact rpart_4ab 4 a b s t f ha hb hs ht hab
  have ab := Int.not_lt.1 hab
  have a0 := okD_t ha
  have b0 := okD_t hb
  obtain ⟨y, m, q, h⟩ := isDay_of a a0.1 a0.2
  obtain ⟨y', m', q', h'⟩ := isDay_of b b0.1 b0.2
  rcases (show k = 1 ∨ k = 2 ∨ k = 3 ∨ k = 4 by omega) with rfl | rfl | rfl | rfl
  · have bd := days30_bd y m q y' m' q' ⟨h.1, h.2.1, h.2.2.1, h.2.2.2.1, h.2.2.2.2.1⟩ ⟨h'.1, h'.2.1, h'.2.2.1, h'.2.2.2.1, h'.2.2.2.2.1⟩
    exact .inr ⟨days30 y m q y' m' q', 360, ⟨by omega, by omega⟩, ⟨by omega, bd.1, bd.2, by omega, by omega⟩, fun w hT => part30_calls a b y m q y' m' q' s t f h h' ab w hT, fun w => rpart_k12 a b s t f _ 1 (.inl rfl) ha hb ab bd.1 bd.2 (fun w => rdays_30 a b y m q y' m' q' h h' ha hb w) w⟩
  · exact .inr ⟨b - a, 360, ⟨by omega, by omega⟩, ⟨by omega, by omega, by omega, by omega, by omega⟩, fun w hT => partK_calls 2 360 a b y m q y' m' q' s t f (.inl ⟨rfl, rfl⟩) h h' ab w hT, fun w => rpart_k12 a b s t f _ 2 (.inr rfl) ha hb ab (by omega) (by omega) (fun w => rdays_k 2 a b (.inl rfl) ha hb w) w⟩
  · exact .inr ⟨b - a, 365, ⟨by omega, by omega⟩, ⟨by omega, by omega, by omega, by omega, by omega⟩, fun w hT => partK_calls 3 365 a b y m q y' m' q' s t f (.inr ⟨rfl, rfl⟩) h h' ab w hT, fun w => rpart_k3 a b s t f ha hb ab w⟩
  · cases hs : okD s
    · exact .inl ⟨4, .inr (.inl rfl), part_s 4 a b s t f ha hb ab hs, rpart_s 4 a b s t f ha hb hs⟩
    cases ht : okD t
    · exact .inl ⟨4, .inr (.inl rfl), part_t 4 a b s t f ha hb ab hs ht, rpart_t 4 a b s t f ha hb hs ht⟩
    have s0 := okD_t hs
    have t0 := okD_t ht
    by_cases hst : t ≤ s
    · exact .inl ⟨2, .inr (.inr rfl), part_st 4 a b s t f ha hb ab hs ht hst, rpart_st 4 a b s t f ha hb hs ht ab hst⟩
    have st := Int.not_le.1 hst
    by_cases hf1 : f < 1
    · exact .inl ⟨2, .inr (.inr rfl), part_f 4 a b s t f ha hb ab hs ht st hf1, rpart_f 4 a b s t f ha hb hs ht ab st hf1⟩
    have h0 : 0 < f * (t - s) := Int.mul_pos (by omega) (by omega)
    have h9 : f * (t - s) ≤ 1000 * 109572 := Int.mul_le_mul hf (by omega) (by omega) (by omega)
    refine .inr ⟨b - a, f * (t - s), ⟨by omega, by omega⟩, ⟨by omega, by omega, by omega, by omega, by omega⟩, fun w hT => ?_, fun w => rpart_k4 a b s t f ha hb hs ht ab st (by omega) hf w⟩
    have hp := part4_calls a b y m q y' m' q' s t f h h' ab s0.1 st t0.2 (by omega) hf w hT
    rw [Int.mul_comm] at hp
    exact hp
end Go.Proofs.YtcjjgdoafkdeaaaGreatDoor
