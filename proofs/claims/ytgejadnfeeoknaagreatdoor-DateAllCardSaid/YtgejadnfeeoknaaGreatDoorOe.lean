/- Layer 4: fractions: Of, Num, Den, Text, Sign, Cmp by contract; (*Int).Small. -/
import Derived.Test.YtgejadnfeeoknaaGreatDoorOd
namespace Go.Proofs.YtgejadnfeeoknaaGreatDoor
open Go.RowKit Go.Extern.Stop Go.Stop Go.Extern Go.Sort
set_option linter.unusedVariables false
set_option linter.unusedSimpArgs false

set_option maxRecDepth 100000 in
/-- rat.Of. -/
theorem ofRat_calls (z e : Int) (w : World) (hT : BitTab w) (hz0 : -9223372036854775808 ≤ z) (hz1 : z ≤ 9223372036854775807) (he0 : -9223372036854775808 ≤ e) (he1 : e ≤ 9223372036854775807) :
    Calls Tryz.prog 74 #[.int .i64 z, .int .i64 e] w fun ev w' =>
      ((e = 0 → ev = .returned (.tuple #[.pointer none, .iface 89 (.int .i64 3)])) ∧
       (e ≠ 0 → ∃ b n d, ev = .returned (.tuple #[.pointer (some ⟨b, 0, none⟩), .nilIface]) ∧ RatAt w' (.pointer (some ⟨b, 0, none⟩)) n d ∧ n * e = z * (d : Int) ∧ n.natAbs ≤ z.natAbs ∧ d ≤ e.natAbs)) ∧ Gr w w' := by
  have HZ := Lib.hid (ofP_calls z hz0 hz1 w)
  have HE := Lib.hid (fun w => ofP_calls e he0 he1 w)
  have HB := Lib.hid (show z.natAbs < B ∧ e.natAbs < B by rw [B_eq]; omega)
  have HTT := Lib.hid hT
  clear hT hz0 hz1 he0 he1
  go_enter Tryz.func74, Tryz.ntmps74
  go_wp2_with (go_at_call 89; (with_reducible refine HZ.out.mono ?_); rintro ev w1 ⟨⟨r1, rfl, hr1⟩, hg1⟩; have HR1 := Lib.hid hr1; clear hr1)
  have HE1 := Lib.hid (HE.out w1)
  go_wp2_with (go_at_call 89; (with_reducible refine HE1.out.mono ?_); rintro ev w2 ⟨⟨r2, rfl, hr2⟩, hg2⟩; have HR2 := Lib.hid hr2; clear hr2)
  have hn := newRat_calls r1 r2 z e w2 (HTT.out.gr (hg1.tr hg2)) (HR1.out.gr hg2).at_ HR2.out.at_ HB.out.1 HB.out.2
  have HN := Lib.hid hn
  clear hn
  by_cases h0 : e = 0
  · have H0 := Lib.hid h0
    clear h0
    go_wp2_with (go_at_call 88; (with_reducible refine HN.out.mono ?_); rintro ev w3 ⟨⟨hnew, _⟩, hg3⟩; obtain rfl := hnew H0.out; clear hnew)
    go_ret2
    exact ⟨⟨fun _ => rfl, fun h => absurd H0.out h⟩, (hg1.tr hg2).tr hg3⟩
  · have H0 := Lib.hid h0
    clear h0
    go_wp2_with (go_at_call 88; (with_reducible refine HN.out.mono ?_); rintro ev w3 ⟨⟨_, hnew⟩, hg3⟩; obtain ⟨r, n, d, rfl, hr⟩ := hnew H0.out; have HR := Lib.hid hr; clear hnew hr)
    go_ret2
    exact ⟨⟨fun h => absurd h H0.out, fun _ => ⟨_, n, d, rfl, HR.out⟩⟩, (hg1.tr hg2).tr hg3⟩

set_option maxRecDepth 100000 in
/-- (*Rat).Num. -/
theorem num_calls (v : Value) (n : Int) (d : Nat) (w : World) (h : RatAt w v n d) :
    Calls Tryz.prog 80 #[v] w fun e w' => (∃ r, e = .returned r ∧ IntAt w' r n) ∧ Gr w w' := by
  have HO := Lib.hid (fun w => ofP_calls 0 (by decide) (by decide) w)
  rcases h with ⟨rfl, rfl, _⟩ | ⟨b, p, q, rfl, h0, h1, hn, hd, hp, hc⟩
  · go_enter Tryz.func80, Tryz.ntmps80
    go_wp2_with (go_at_call 89; (with_reducible refine (HO.out _).mono ?_); rintro ev w1 ⟨⟨r1, rfl, hr1⟩, hg1⟩; have HR1 := Lib.hid hr1; clear hr1)
    go_ret
    exact ⟨⟨_, rfl, HR1.out.at_⟩, hg1⟩
  · have HN := Lib.hid hn
    clear h1 hd hp hc
    cases p with
    | none =>
      have hz : n = 0 := by
        rcases hn with ⟨_, h⟩ | ⟨_, _, _, _, h, _⟩
        · exact h
        · cases h
      have HZ := Lib.hid hz
      clear hn hz
      go_enter Tryz.func80, Tryz.ntmps80
      go_wp2_with (go_at_call 89; (with_reducible refine (HO.out _).mono ?_); rintro ev w1 ⟨⟨r1, rfl, hr1⟩, hg1⟩; have HR1 := Lib.hid hr1; clear hr1)
      go_ret
      exact ⟨⟨_, rfl, by rw [HZ.out]; exact HR1.out.at_⟩, hg1⟩
    | some a =>
      clear hn
      go_enter Tryz.func80, Tryz.ntmps80
      go_wp2
      go_ret
      exact ⟨⟨_, rfl, HN.out⟩, Gr.rf _⟩

set_option maxRecDepth 100000 in
/-- (*Rat).Den. -/
theorem den_calls (v : Value) (n : Int) (d : Nat) (w : World) (h : RatAt w v n d) :
    Calls Tryz.prog 78 #[v] w fun e w' => (∃ r, e = .returned r ∧ IntAt w' r (d : Int)) ∧ Gr w w' := by
  have HO := Lib.hid (fun w => ofP_calls 1 (by decide) (by decide) w)
  rcases h with ⟨rfl, _, rfl⟩ | ⟨b, p, q, rfl, h0, h1, hn, hd, hp, hc⟩
  · go_enter Tryz.func78, Tryz.ntmps78
    go_wp2_with (go_at_call 89; (with_reducible refine (HO.out _).mono ?_); rintro ev w1 ⟨⟨r1, rfl, hr1⟩, hg1⟩; have HR1 := Lib.hid hr1; clear hr1)
    go_ret
    exact ⟨⟨_, rfl, HR1.out.at_⟩, hg1⟩
  · clear h0 hn hp hc
    rcases hd with ⟨rfl, rfl⟩ | ⟨hq, hd⟩
    · go_enter Tryz.func78, Tryz.ntmps78
      go_wp2_with (go_at_call 89; (with_reducible refine (HO.out _).mono ?_); rintro ev w1 ⟨⟨r1, rfl, hr1⟩, hg1⟩; have HR1 := Lib.hid hr1; clear hr1)
      go_ret
      exact ⟨⟨_, rfl, HR1.out.at_⟩, hg1⟩
    · cases q with
      | none => exact absurd rfl hq
      | some a =>
        have HD := Lib.hid hd
        clear hd hq
        go_enter Tryz.func78, Tryz.ntmps78
        go_wp2
        go_ret
        exact ⟨⟨_, rfl, HD.out⟩, Gr.rf _⟩

set_option maxRecDepth 100000 in
/-- (*Rat).Sign. -/
theorem signRat_calls (v : Value) (n : Int) (d : Nat) (w : World) (h : RatAt w v n d) :
    Calls Tryz.prog 102 #[v] w fun e w' => e = .returned (.int .i64 n.sign) ∧ Gr w w' := by
  have HN := Lib.hid (num_calls v n d w h)
  clear h
  go_enter Tryz.func102, Tryz.ntmps102
  go_wp2_with (go_at_call 80; (with_reducible refine HN.out.mono ?_); rintro ev w1 ⟨⟨r1, rfl, hr1⟩, hg1⟩; have HR1 := Lib.hid hr1; clear hr1)
  have HS := Lib.hid (sign_calls r1 n w1 HR1.out)
  go_wp2_with (go_at_call 106; (with_reducible refine HS.out.mono ?_); rintro ev w2 ⟨rfl, hg2⟩)
  go_ret
  exact ⟨rfl, hg1.tr hg2⟩

theorem RatAt.pos {w : World} {v : Value} {n : Int} {d : Nat} (h : RatAt w v n d) : 0 < d := by
  rcases h with ⟨_, _, rfl⟩ | ⟨b, p, q, _, _, _, _, _, hp, _⟩
  · decide
  · exact hp
/-- A fraction's text. -/
def ratText (n : Int) (d : Nat) : List UInt8 := if d = 1 then Lib.itoa n else Lib.itoa n ++ 47 :: Lib.decDigits d
theorem itoa_nat (d : Nat) : Lib.itoa (d : Int) = Lib.decDigits d := by unfold Lib.itoa; rw [if_neg (by omega)]; rfl
theorem decDigits_one_iff (d : Nat) : Lib.decDigits d = [49] ↔ d = 1 := by
  constructor
  · intro h
    by_cases h10 : d < 10
    · rw [Lib.decDigits_one h10] at h
      have h1 : UInt8.ofNat (48 + d) = 49 := by injection h
      have h2 := congrArg UInt8.toNat h1
      rw [UInt8.toNat_ofNat'] at h2
      have h3 : (49 : UInt8).toNat = 49 := rfl
      omega
    · have h1 := congrArg List.length h
      rw [Lib.decDigits_length, Lib.nDigits_big h10] at h1
      have := Lib.nDigits_pos (d / 10)
      simp at h1; omega
  · rintro rfl; rw [Lib.decDigits_one (by decide)]; rfl

set_option maxRecDepth 100000 in
set_option maxHeartbeats 2000000 in
/-- (*Rat).Text. -/
theorem textRat_calls (v : Value) (n : Int) (d : Nat) (w : World) (h : RatAt w v n d) (m : Nat) (hn : n.natAbs < B ^ m) (hd : d < B ^ m) (hm0 : 1 ≤ m) (hm : m ≤ 1000) (hT : PowTab w) :
    Calls Tryz.prog 51 #[v] w fun e w' => e = .returned (.string ⟨(ratText n d).toArray⟩) ∧ Gr w w' := by
  have HD := Lib.hid (den_calls v n d w h)
  have HN := Lib.hid (fun w' (hg : Gr w w') => num_calls v n d w' (h.gr hg))
  have HB := Lib.hid (And.intro hn hd)
  have HTT := Lib.hid hT
  have h1 := decDigits_one_iff d
  have hsn : (Lib.itoa n).length ≤ 20 * m + 1 := by
    unfold Lib.itoa
    have e1 := nd_le (20 * m) n.natAbs (by omega) (Nat.lt_of_lt_of_le hn (B_le_ten m))
    split
    · rw [List.length_cons]; omega
    · rw [show n.toNat = n.natAbs by omega]; omega
  have hsd : (Lib.decDigits d).length ≤ 20 * m := nd_le (20 * m) d (by omega) (Nat.lt_of_lt_of_le hd (B_le_ten m))
  obtain ⟨S, hS⟩ : ∃ S : ByteArray, S = ⟨(Lib.decDigits d).toArray⟩ := ⟨_, rfl⟩
  obtain ⟨R, hR⟩ : ∃ R : ByteArray, R = ⟨(Lib.itoa n).toArray⟩ := ⟨_, rfl⟩
  have hSs : S.size ≤ 20 * m := by rw [hS, Lib.size_eq]; exact hsd
  have hRs : R.size ≤ 20 * m + 1 := by rw [hR, Lib.size_eq]; exact hsn
  have hSl : S.toList = Lib.decDigits d := by rw [ByteArray.toList_eq, hS]
  have hcat : R ++ ⟨#[47]⟩ ++ S = ⟨(Lib.itoa n ++ 47 :: Lib.decDigits d).toArray⟩ := by
    apply ba_ext
    rw [ByteArray.data_append, Array.toList_append, ByteArray.data_append, Array.toList_append, hS, hR]
    simp
  have HTX := Lib.hid (fun (r : Value) (w' : World) (hi : IntAt w' r n) (ht : PowTab w') => text_int r n w' hi m hn hm0 hm ht)
  have HTD := Lib.hid (fun (r : Value) (w' : World) (hi : IntAt w' r (d : Int)) (ht : PowTab w') => text_int r (d : Int) w' hi m (by simpa using hd) hm0 hm ht)
  rw [itoa_nat, ← hS] at HTD
  rw [← hR] at HTX
  have HCT := Lib.hid hcat
  have HRR := Lib.hid hR
  clear h hn hd hT hsn hsd hcat hR
  by_cases hd1 : d = 1
  · have hS1 : S = ⟨#[49]⟩ := by rw [hS, h1.2 hd1]
    rw [hS1] at HTD
    have HD1 := Lib.hid hd1
    clear hd1 hS hS1 hSs hSl h1
    go_enter Tryz.func51, Tryz.ntmps51
    go_wp2_with (go_at_call 78; (with_reducible refine HD.out.mono ?_); rintro ev w1 ⟨⟨r1, rfl, hr1⟩, hg1⟩; have HR1 := Lib.hid hr1; clear hr1)
    have HX1 := Lib.hid (HTD.out r1 w1 HR1.out (HTT.out.gr hg1))
    go_wp2_with (go_at_call 79; (with_reducible refine HX1.out.mono ?_); rintro ev w2 ⟨rfl, hg2⟩)
    have HN3 := Lib.hid (HN.out w2 (hg1.tr hg2))
    go_wp2_with (go_at_call 80; (with_reducible refine HN3.out.mono ?_); rintro ev w3 ⟨⟨r3, rfl, hr3⟩, hg3⟩; have HR3 := Lib.hid hr3; clear hr3)
    have HX4 := Lib.hid (HTX.out r3 w3 HR3.out (HTT.out.gr ((hg1.tr hg2).tr hg3)))
    go_wp2_with (go_at_call 79; (with_reducible refine HX4.out.mono ?_); rintro ev w4 ⟨rfl, hg4⟩)
    go_ret
    exact ⟨ret_str (by rw [HRR.out]; unfold ratText; rw [if_pos HD1.out]), ((hg1.tr hg2).tr hg3).tr hg4⟩
  · have hne : (S.toList == [49]) = false := by rw [hSl]; exact beq_eq_false_iff_ne.2 (fun e => hd1 (h1.1 e))
    have hne2 : (S.toList != [49]) = true := by rw [bne, hne]; rfl
    have HD1 := Lib.hid hd1
    clear hd1 hS hSl h1
    go_enter Tryz.func51, Tryz.ntmps51
    go_wp2_with (go_at_call 78; (with_reducible refine HD.out.mono ?_); rintro ev w1 ⟨⟨r1, rfl, hr1⟩, hg1⟩; have HR1 := Lib.hid hr1; clear hr1)
    have HX1 := Lib.hid (HTD.out r1 w1 HR1.out (HTT.out.gr hg1))
    go_wp2_with (go_at_call 79; (with_reducible refine HX1.out.mono ?_); rintro ev w2 ⟨rfl, hg2⟩)
    have HN3 := Lib.hid (HN.out w2 (hg1.tr hg2))
    go_wp2_with (go_at_call 80; (with_reducible refine HN3.out.mono ?_); rintro ev w3 ⟨⟨r3, rfl, hr3⟩, hg3⟩; have HR3 := Lib.hid hr3; clear hr3)
    have HX4 := Lib.hid (HTX.out r3 w3 HR3.out (HTT.out.gr ((hg1.tr hg2).tr hg3)))
    go_wp2_with (go_at_call 79; (with_reducible refine HX4.out.mono ?_); rintro ev w4 ⟨rfl, hg4⟩)
    go_ret
    exact ⟨ret_str (by rw [HCT.out]; unfold ratText; rw [if_neg HD1.out]), ((hg1.tr hg2).tr hg3).tr hg4⟩

set_option maxRecDepth 100000 in
set_option maxHeartbeats 1000000 in
/-- (*Rat).Cmp. -/
theorem cmpRat_calls (x y : Value) (n1 n2 : Int) (d1 d2 : Nat) (w : World) (hx : RatAt w x n1 d1) (hy : RatAt w y n2 d2) (k : Nat) (h1 : n1.natAbs < B ^ k) (h2 : n2.natAbs < B ^ k) (h3 : d1 < B ^ k) (h4 : d2 < B ^ k) (hk : k ≤ 1000) :
    Calls Tryz.prog 103 #[x, y] w fun e w' => e = .returned (.int .i64 (n1 * (d2 : Int) - n2 * (d1 : Int)).sign) ∧ Gr w w' := by
  have HN1 := Lib.hid (fun w' (hg : Gr w w') => num_calls x n1 d1 w' (hx.gr hg))
  have HN2 := Lib.hid (fun w' (hg : Gr w w') => num_calls y n2 d2 w' (hy.gr hg))
  have HD1 := Lib.hid (fun w' (hg : Gr w w') => den_calls x n1 d1 w' (hx.gr hg))
  have HD2 := Lib.hid (fun w' (hg : Gr w w') => den_calls y n2 d2 w' (hy.gr hg))
  have hb1 : (n1 * (d2 : Int)).natAbs < B ^ (2 * k) := by
    rw [Int.natAbs_mul, Int.natAbs_natCast, Nat.two_mul, Nat.pow_add]; exact Nat.mul_lt_mul'' h1 h4
  have hb2 : (n2 * (d1 : Int)).natAbs < B ^ (2 * k) := by
    rw [Int.natAbs_mul, Int.natAbs_natCast, Nat.two_mul, Nat.pow_add]; exact Nat.mul_lt_mul'' h2 h3
  have HB := Lib.hid (And.intro h1 (And.intro h2 (And.intro (show (d1 : Int).natAbs < B ^ k by simpa using h3) (And.intro (show (d2 : Int).natAbs < B ^ k by simpa using h4) (And.intro hb1 hb2)))))
  clear hx hy h1 h2 h3 h4 hb1 hb2
  have HA := Lib.hid (HN1.out w (Gr.rf w))
  go_enter Tryz.func103, Tryz.ntmps103
  go_wp2_with (go_at_call 80; (with_reducible refine HA.out.mono ?_); rintro ev w1 ⟨⟨r1, rfl, hr1⟩, hg1⟩; have HR1 := Lib.hid hr1; clear hr1)
  have H2 := Lib.hid (HD2.out w1 hg1)
  go_wp2_with (go_at_call 78; (with_reducible refine H2.out.mono ?_); rintro ev w2 ⟨⟨r2, rfl, hr2⟩, hg2⟩; have HR2 := Lib.hid hr2; clear hr2)
  have g2 := hg1.tr hg2
  have H3 := Lib.hid (mul_int r1 r2 n1 d2 w2 (HR1.out.gr hg2) HR2.out k HB.out.1 HB.out.2.2.2.1 (by omega))
  go_wp2_with (go_at_call 90; (with_reducible refine H3.out.mono ?_); rintro ev w3 ⟨⟨r3, rfl, hr3⟩, hg3⟩; have HR3 := Lib.hid hr3; clear hr3)
  have g3 := g2.tr hg3
  have H4 := Lib.hid (HN2.out w3 g3)
  go_wp2_with (go_at_call 80; (with_reducible refine H4.out.mono ?_); rintro ev w4 ⟨⟨r4, rfl, hr4⟩, hg4⟩; have HR4 := Lib.hid hr4; clear hr4)
  have g4 := g3.tr hg4
  have H5 := Lib.hid (HD1.out w4 g4)
  go_wp2_with (go_at_call 78; (with_reducible refine H5.out.mono ?_); rintro ev w5 ⟨⟨r5, rfl, hr5⟩, hg5⟩; have HR5 := Lib.hid hr5; clear hr5)
  have g5 := g4.tr hg5
  have H6 := Lib.hid (mul_int r4 r5 n2 d1 w5 (HR4.out.gr hg5) HR5.out k HB.out.2.1 HB.out.2.2.1 (by omega))
  go_wp2_with (go_at_call 90; (with_reducible refine H6.out.mono ?_); rintro ev w6 ⟨⟨r6, rfl, hr6⟩, hg6⟩; have HR6 := Lib.hid hr6; clear hr6)
  have H7 := Lib.hid (cmp_int r3 r6 (n1 * d2) (n2 * d1) w6 (HR3.out.at_.gr (hg4.tr (hg5.tr hg6))) HR6.out.at_ (2 * k) HB.out.2.2.2.2.1 HB.out.2.2.2.2.2 (by omega))
  go_wp2_with (go_at_call 149; (with_reducible refine H7.out.mono ?_); rintro ev w7 ⟨rfl, hg7⟩)
  go_ret
  exact ⟨rfl, (g5.tr hg6).tr hg7⟩
end Go.Proofs.YtgejadnfeeoknaaGreatDoor
