/- Layer 2: Pow, width, bit by contract. -/
import Derived.Test.YtgejadnfeeoknaaGreatDoorNt
namespace Go.Proofs.YtgejadnfeeoknaaGreatDoor
open Go.RowKit Go.Extern.Stop Go.Stop Go.Extern
set_option linter.unusedVariables false
set_option linter.unusedSimpArgs false

/-- A power's loop. -/
def PowInv (a K m out base k : Nat) : Prop := out * base ^ k = a ^ K ∧ (1 ≤ a → 1 ≤ out ∧ 1 ≤ base) ∧ (a = 0 → base = 0 ∧ out ≤ 1) ∧ out < m ∧ base < m
theorem PowInv.bd {a K m out base k : Nat} (h : PowInv a K m out base k) (hp : a ^ K < m) (hm1 : 1 < m) (hk : 1 ≤ k) : out * base < m ∧ (2 ≤ k → base * base < m) :=
  pow_inv a K out base k h.1 h.2.1 m hp hm1 h.2.2.1 hk
theorem PowInv.one {a K m out base : Nat} (h : PowInv a K m out base 1) (hp : a ^ K < m) (hm1 : 1 < m) : PowInv a K m (out * base) base 0 :=
  ⟨by rw [Nat.pow_zero, Nat.mul_one]; have := h.1; rw [Nat.pow_one] at this; exact this, fun h1 => ⟨Nat.mul_pos (h.2.1 h1).1 (h.2.1 h1).2, (h.2.1 h1).2⟩,
    fun h0 => ⟨(h.2.2.1 h0).1, by rw [(h.2.2.1 h0).1, Nat.mul_zero]; omega⟩, (h.bd hp hm1 (Nat.le_refl _)).1, h.2.2.2.2⟩
theorem PowInv.odd {a K m out base k : Nat} (h : PowInv a K m out base k) (hp : a ^ K < m) (hm1 : 1 < m) (hk : 2 ≤ k) (ho : k % 2 = 1) : PowInv a K m (out * base) (base * base) (k / 2) :=
  ⟨pow_odd a K out base k h.1 ho, fun h1 => ⟨Nat.mul_pos (h.2.1 h1).1 (h.2.1 h1).2, Nat.mul_pos (h.2.1 h1).2 (h.2.1 h1).2⟩,
    fun h0 => ⟨by rw [(h.2.2.1 h0).1], by rw [(h.2.2.1 h0).1, Nat.mul_zero]; omega⟩, (h.bd hp hm1 (by omega)).1, (h.bd hp hm1 (by omega)).2 hk⟩
theorem PowInv.even {a K m out base k : Nat} (h : PowInv a K m out base k) (hp : a ^ K < m) (hm1 : 1 < m) (hk : 2 ≤ k) (ho : k % 2 = 0) : PowInv a K m out (base * base) (k / 2) :=
  ⟨pow_even a K out base k h.1 ho, fun h1 => ⟨(h.2.1 h1).1, Nat.mul_pos (h.2.1 h1).2 (h.2.1 h1).2⟩,
    fun h0 => ⟨by rw [(h.2.2.1 h0).1], (h.2.2.1 h0).2⟩, h.2.2.2.1, (h.bd hp hm1 (by omega)).2 hk⟩

theorem and1 (n : Nat) (h : n < 9223372036854775808) : bits .and .i64 (n : Int) 1 = ((n % 2 : Nat) : Int) := by
  have h1 : (BitVec.ofInt 64 (n : Int)).toNat = n := by
    rw [BitVec.ofInt_natCast, BitVec.toNat_ofNat]; exact Nat.mod_eq_of_lt (by omega)
  show IntKind.i64.wrap ((BitVec.ofInt 64 (n : Int) &&& BitVec.ofInt 64 1).toNat : Int) = _
  rw [BitVec.toNat_and, h1, show (BitVec.ofInt 64 1).toNat = 1 by decide, Nat.and_one_is_mod]
  rw [IntKind.wrap_i64]
  omega

set_option maxRecDepth 100000 in
set_option maxHeartbeats 4000000 in
/-- (*Nat).Pow. -/
theorem pow_calls (x : Value) (a K : Nat) (w : World) (hx : NatAt w x a) (m : Nat) (ha : a < B ^ m) (hp : a ^ K < B ^ m) (hm0 : 1 ≤ m) (hm : m ≤ 1000000) (hK : K ≤ 1000000) :
    Calls Tryz.prog 104 #[x, .int .i64 (K : Int)] w fun e w' => (∃ r, e = .returned r ∧ NatAt w' r (a ^ K)) ∧ Gr w w' := by
  have hm1 : 1 < B ^ m := Nat.one_lt_pow (by omega) (by decide)
  have HX := Lib.hid hx
  have HA := Lib.hid ha
  have HP := Lib.hid hp
  have HM1 := Lib.hid hm1
  clear hx ha hp hm1 hm0
  go_enter Tryz.func104, Tryz.ntmps104
  go_wp2_with (go_at_call 92; (with_reducible refine (of1_calls _).mono ?_); rintro ev w1 ⟨⟨r1, rfl, hr1⟩, hg1⟩; have HR1 := Lib.hid hr1; clear hr1)
  go_loopg [1, 5, 6] K (fun n kx o b wr => ∃ (out base : Nat), n ≤ K ∧ kx = .int .i64 (n : Int) ∧ NatAt wr o out ∧ NatAt wr b base ∧ PowInv a K (B ^ m) out base n ∧ Gr w wr)
  case atStart => exact ⟨1, a, Nat.le_refl _, rfl, HR1.out, HX.out.gr hg1, ⟨by rw [Nat.one_mul], fun h => ⟨Nat.le_refl _, h⟩, fun h => ⟨h, Nat.le_refl _⟩, HM1.out, HA.out⟩, hg1⟩
  case round =>
    obtain ⟨out, base, hnK, rfl, ho, hb, hinv, hgr⟩ := hrel
    have HO := Lib.hid ho
    have HB := Lib.hid hb
    have HI := Lib.hid hinv
    clear ho hb hinv
    by_cases h0 : 0 < gk
    · have hand := and1 gk (by omega)
      by_cases h1 : 1 < gk
      · have b1 : decide (1 < (gk : Int)) = true := decide_eq_true (by omega)
        rcases Nat.mod_two_eq_zero_or_one gk with hodd | hodd
        · rw [hodd, show ((0 : Nat) : Int) = 0 from rfl] at hand
          have HMU := fun w2 hg => mul_calls _ _ base base w2 (HB.out.gr (hg : Gr wr w2)) (HB.out.gr hg) m HI.out.2.2.2.2 HI.out.2.2.2.2 hm
          have HMU := Lib.hid (HMU wr (Gr.rf wr))
          have HOD := Lib.hid hodd
          clear hodd
          go_wp2_with (go_at_call 98; (with_reducible refine HMU.out.mono ?_); rintro ev w2 ⟨⟨r2, rfl, hr2⟩, hg2⟩; have HR2 := Lib.hid hr2; clear hr2)
          go_roundg (gk / 2)
          case measure => omega
          case rel => exact ⟨out, base * base, by omega, by first | rfl | (congr 1; omega), HO.out.gr hg2, HR2.out, HI.out.even HP.out HM1.out (by omega) HOD.out, hgr.tr hg2⟩
        · rw [hodd, show ((1 : Nat) : Int) = 1 from rfl] at hand
          have HMU := Lib.hid (mul_calls _ _ out base wr HO.out HB.out m HI.out.2.2.2.1 HI.out.2.2.2.2 hm)
          have HOD := Lib.hid hodd
          clear hodd
          go_wp2_with (go_at_call 98; (with_reducible refine HMU.out.mono ?_); rintro ev w2 ⟨⟨r2, rfl, hr2⟩, hg2⟩; have HR2 := Lib.hid hr2; clear hr2)
          have HMV := Lib.hid (mul_calls _ _ base base w2 (HB.out.gr hg2) (HB.out.gr hg2) m HI.out.2.2.2.2 HI.out.2.2.2.2 hm)
          go_wp2_with (go_at_call 98; (with_reducible refine HMV.out.mono ?_); rintro ev w3 ⟨⟨r3, rfl, hr3⟩, hg3⟩; have HR3 := Lib.hid hr3; clear hr3)
          go_roundg (gk / 2)
          case measure => omega
          case rel => exact ⟨out * base, base * base, by omega, by first | rfl | (congr 1; omega), HR2.out.gr hg3, HR3.out, HI.out.odd HP.out HM1.out (by omega) HOD.out, (hgr.tr hg2).tr hg3⟩
      · obtain rfl : gk = 1 := by omega
        have HMU := Lib.hid (mul_calls _ _ out base wr HO.out HB.out m HI.out.2.2.2.1 HI.out.2.2.2.2 hm)
        clear hand
        go_wp2_with (go_at_call 98; (with_reducible refine HMU.out.mono ?_); rintro ev w2 ⟨⟨r2, rfl, hr2⟩, hg2⟩; have HR2 := Lib.hid hr2; clear hr2)
        go_roundg 0
        case measure => omega
        case rel => exact ⟨out * base, base, by omega, rfl, HR2.out, HB.out.gr hg2, HI.out.one HP.out HM1.out, hgr.tr hg2⟩
    · obtain rfl : gk = 0 := by omega
      go_wp2
      go_ret
      refine ⟨⟨_, rfl, ?_⟩, hgr⟩
      have h := HI.out.1
      rw [Nat.pow_zero, Nat.mul_one] at h
      rw [← h]
      exact HO.out
end Go.Proofs.YtgejadnfeeoknaaGreatDoor
