/- Layer 5: decimals: Get of two texts. -/
import Derived.Test.YtgejadnfeeoknaaGreatDoorOh
namespace Go.Proofs.YtgejadnfeeoknaaGreatDoor
open Go.RowKit Go.Extern.Stop Go.Stop Go.Extern Go.Sort
set_option linter.unusedVariables false
set_option linter.unusedSimpArgs false

theorem RatAt.cop {w : World} {v : Value} {n : Int} {d : Nat} (h : RatAt w v n d) : Nat.gcd n.natAbs d = 1 := by
  rcases h with ⟨_, _, rfl⟩ | ⟨b, p, q, _, _, _, _, _, _, hc⟩
  · exact Nat.gcd_one_right _
  · exact hc
/-- Lowest terms are one. -/
theorem rat_unique (n N z e : Int) (d D : Nat) (he : e ≠ 0) (h1 : n * e = z * (d : Int)) (h2 : N * e = z * (D : Int)) (hd : 0 < d) (hD : 0 < D) (c1 : Nat.gcd n.natAbs d = 1) (c2 : Nat.gcd N.natAbs D = 1) : n = N ∧ d = D := by
  have h3 : n * (D : Int) = N * (d : Int) := by
    apply Int.eq_of_mul_eq_mul_right he
    calc n * (D : Int) * e = n * e * (D : Int) := by ac_rfl
      _ = z * (d : Int) * (D : Int) := by rw [h1]
      _ = z * (D : Int) * (d : Int) := by ac_rfl
      _ = N * e * (d : Int) := by rw [h2]
      _ = N * (d : Int) * e := by ac_rfl
  have h4 : n.natAbs * D = N.natAbs * d := by
    have := congrArg Int.natAbs h3
    rw [Int.natAbs_mul, Int.natAbs_mul, Int.natAbs_natCast, Int.natAbs_natCast] at this
    exact this
  have hdD : d ∣ D := Nat.Coprime.dvd_of_dvd_mul_left (show Nat.Coprime d n.natAbs from by rw [Nat.coprime_comm]; exact c1) ⟨N.natAbs, by rw [h4, Nat.mul_comm]⟩
  have hDd : D ∣ d := Nat.Coprime.dvd_of_dvd_mul_left (show Nat.Coprime D N.natAbs from by rw [Nat.coprime_comm]; exact c2) ⟨n.natAbs, by rw [← h4, Nat.mul_comm]⟩
  have hdd : d = D := Nat.dvd_antisymm hdD hDd
  subst hdd
  exact ⟨Int.eq_of_mul_eq_mul_right (by omega) h3, rfl⟩

theorem cp_150 (w : World) : Calls Tryz.prog 137 #[.string ⟨#[45, 49, 46, 53, 48]⟩, .string ⟨#[45]⟩] w fun e w' => e = .returned (.tuple #[.string ⟨#[49, 46, 53, 48]⟩, .bool true]) ∧ w = w' :=
  (Tryz.strings_CutPrefix ⟨#[45, 49, 46, 53, 48]⟩ ⟨#[45]⟩ w).mono (by rintro e w' ⟨rfl, rfl⟩; exact ⟨rfl, rfl⟩)
theorem cut_150 (w : World) : Calls Tryz.prog 138 #[.string ⟨#[49, 46, 53, 48]⟩, .string ⟨#[46]⟩] w fun e w' => e = .returned (.tuple #[.string ⟨#[49]⟩, .string ⟨#[53, 48]⟩, .bool true]) ∧ Gr w w' :=
  (cut_has ⟨#[49, 46, 53, 48]⟩ 46 1 (by decide) (by decide) (by decide) w).mono (by rintro e w' ⟨rfl, hg⟩; exact ⟨rfl, hg⟩)
theorem trim_50 (w : World) : Calls Tryz.prog 126 #[.string ⟨#[53, 48]⟩, .string ⟨#[48, 49, 50, 51, 52, 53, 54, 55, 56, 57]⟩] w fun e w' => e = .returned (.string ⟨#[]⟩) ∧ Gr w w' :=
  (trim_calls ⟨#[53, 48]⟩ (by decide) w).mono (by rintro e w' ⟨rfl, hg⟩; exact ⟨rfl, hg⟩)
set_option maxRecDepth 100000 in
theorem trimLeft_150 (w : World) : Calls Tryz.prog 139 #[.string ((⟨#[49]⟩ : ByteArray) ++ (⟨#[53, 48]⟩ : ByteArray)), .string ⟨#[48]⟩] w fun e w' => e = .returned (.string ⟨#[49, 53, 48]⟩) ∧ w = w' :=
  (Tryz.strings_TrimLeft_one ((⟨#[49]⟩ : ByteArray) ++ (⟨#[53, 48]⟩ : ByteArray)) 48 (by decide) w).mono (by rw [cat_list]; rintro e w' ⟨rfl, rfl⟩; exact ⟨rfl, rfl⟩)
theorem get_1 (w : World) : Calls Tryz.prog 91 #[.string ⟨#[49]⟩] w fun e w' => (∃ r, e = .returned (.tuple #[r, .nilIface]) ∧ NatP w' r 1) ∧ Gr w w' :=
  get_nat_ok ⟨#[49]⟩ w (by decide) (by decide) (by unfold Dig; decide) (.inl rfl)
theorem get_0 (w : World) : Calls Tryz.prog 91 #[.string ⟨#[48]⟩] w fun e w' => (∃ r, e = .returned (.tuple #[r, .nilIface]) ∧ NatP w' r 0) ∧ Gr w w' :=
  get_nat_ok ⟨#[48]⟩ w (by decide) (by decide) (by unfold Dig; decide) (.inl rfl)
theorem get_150 (w : World) : Calls Tryz.prog 91 #[.string ⟨#[49, 53, 48]⟩] w fun e w' => (∃ r, e = .returned (.tuple #[r, .nilIface]) ∧ NatP w' r 150) ∧ Gr w w' :=
  get_nat_ok ⟨#[49, 53, 48]⟩ w (by decide) (by decide) (by unfold Dig; decide) (.inr (fun _ => by show (49 : UInt8).toNat ≠ 48; decide))

set_option maxRecDepth 100000 in
set_option maxHeartbeats 2000000 in
/-- dec.Get("-1.50"). -/
theorem get_dec_150 (w : World) (hT : BitTab w) :
    Calls Tryz.prog 95 #[.string ⟨#[45, 49, 46, 53, 48]⟩] w fun e w' => (∃ b, e = .returned (.tuple #[.pointer (some ⟨b, 0, none⟩), .int .i64 2, .nilIface]) ∧ RatAt w' (.pointer (some ⟨b, 0, none⟩)) (-3) 2) ∧ Gr w w' := by
  have HTT := Lib.hid hT
  clear hT
  go_enter Tryz.func95, Tryz.ntmps95
  go_wp2_with (go_at_call 137; (with_reducible refine (cp_150 _).mono ?_); rintro ev w1 ⟨rfl, rfl⟩)
  go_wp2_with (go_at_call 138; (with_reducible refine (cut_150 _).mono ?_); rintro ev w1 ⟨rfl, hg1⟩)
  go_wp2_with (go_at_call 126; (with_reducible refine (trim_50 _).mono ?_); rintro ev w2 ⟨rfl, hg2⟩)
  go_wp2_with (go_at_call 91; (with_reducible refine (get_1 _).mono ?_); rintro ev w3 ⟨⟨r3, rfl, hr3⟩, hg3⟩; clear hr3)
  go_wp2_with (go_at_call 91; (with_reducible refine (get_0 _).mono ?_); rintro ev w4 ⟨⟨r4, rfl, hr4⟩, hg4⟩; clear hr4)
  go_wp2_with (go_at_call 139; (with_reducible refine (trimLeft_150 _).mono ?_); rintro ev w5 ⟨rfl, rfl⟩)
  go_wp2_with (go_at_call 91; (with_reducible refine (get_150 _).mono ?_); rintro ev w6 ⟨⟨r6, rfl, hr6⟩, hg6⟩; have HR6 := Lib.hid hr6; clear hr6)
  have hz := zero_calls r6 150 w6 HR6.out
  rw [show ((150 : Nat) == 0) = false from rfl] at hz
  have HZ := Lib.hid hz
  clear hz
  go_wp2_with (go_at_call 140; (with_reducible refine HZ.out.mono ?_); rintro ev w7 ⟨rfl, rfl⟩)
  have HN := Lib.hid (newP_calls true r6 150 w6 HR6.out)
  go_wp2_with (go_at_call 125; (with_reducible refine HN.out.mono ?_); rintro ev w8 ⟨⟨r8, rfl, hr8⟩, hg8⟩; have HR8 := Lib.hid hr8; clear hr8)
  have ht := ten_calls 2 (by decide) w8
  rw [show ((2 : Nat) : Int) = 2 from rfl] at ht
  have HTE := Lib.hid ht
  clear ht
  go_wp2_with (go_at_call 136; (with_reducible refine HTE.out.mono ?_); rintro ev w9 ⟨⟨r9, rfl, hr9⟩, hg9⟩; have HR9 := Lib.hid hr9; clear hr9)
  have hgt := ((hg1.tr hg2).tr hg3).tr ((hg4.tr hg6).tr (hg8.tr hg9))
  have HNR := Lib.hid (newRat_calls r8 r9 (-150) 100 w9 (HTT.out.gr hgt) (HR8.out.gr hg9).at_ HR9.out.at_ (by decide) (by decide))
  go_wp2_with (go_at_call 88; (with_reducible refine HNR.out.mono ?_); rintro ev w10 ⟨⟨_, hnew⟩, hg10⟩; obtain ⟨b, n, d, rfl, hr, hnd, _⟩ := hnew (by decide); have HR := Lib.hid (And.intro hr hnd); clear hnew hr hnd)
  go_ret3
  obtain ⟨hr, hnd⟩ := HR.out
  obtain ⟨e1, e2⟩ := rat_unique n (-3) (-150) 100 d 2 (by decide) hnd (by decide) hr.pos (by decide) hr.cop (by decide)
  subst e1
  subst e2
  exact ⟨⟨b, rfl, hr⟩, hgt.tr hg10⟩

set_option maxRecDepth 100000 in
/-- dec.Get(""). -/
theorem get_dec_nil (w : World) :
    Calls Tryz.prog 95 #[.string ⟨#[]⟩] w fun e w' => e = .returned (.tuple #[.pointer none, .int .i64 0, .iface 89 (.int .i64 1)]) ∧ Gr w w' := by
  have HO := Lib.hid (of_calls 1 rfl)
  have HCP : ∀ w, Calls Tryz.prog 137 #[.string ⟨#[]⟩, .string ⟨#[45]⟩] w fun e w' => e = .returned (.tuple #[.string ⟨#[]⟩, .bool false]) ∧ w = w' := fun w =>
    (Tryz.strings_CutPrefix ⟨#[]⟩ ⟨#[45]⟩ w).mono (by rintro e w' ⟨rfl, rfl⟩; exact ⟨rfl, rfl⟩)
  have HCP := Lib.hid HCP
  have HCU := Lib.hid (fun w => cut_none ⟨#[]⟩ 46 (by decide) w)
  have HG := Lib.hid (fun w => get_nat_bad ⟨#[]⟩ w (by decide) (.inl rfl))
  go_enter Tryz.func95, Tryz.ntmps95
  go_wp2_with (go_at_call 137; (with_reducible refine (HCP.out _).mono ?_); rintro ev w1 ⟨rfl, rfl⟩)
  go_wp2_with (go_at_call 138; (with_reducible refine (HCU.out _).mono ?_); rintro ev w1 ⟨rfl, hg1⟩)
  go_wp2_with (go_at_call 91; (with_reducible refine (HG.out _).mono ?_); rintro ev w2 ⟨rfl, hg2⟩)
  go_wp2_with (go_at_call 54; (with_reducible refine (HO.out _).mono ?_); rintro ev w3 ⟨rfl, rfl⟩)
  go_ret3
  exact ⟨rfl, hg1.tr hg2⟩
end Go.Proofs.YtgejadnfeeoknaaGreatDoor
