/- Layer 2's laws: the program's contracts at numbers bounded by digits of a thousand million. -/
import Derived.Test.YtglbdafcfcmffaaGreatDoorUa
import Derived.Test.YtglbdafcfcmffaaGreatDoorTh
import Derived.Test.YtglbdafcfcmffaaGreatDoorGh
import Derived.Test.YtglbdafcfcmffaaGreatDoorGq
namespace Go.Proofs.YtglbdafcfcmffaaGreatDoor
open Go.RowKit Go.Extern.Stop Go.Stop Go.Extern Go.Sort
set_option linter.unusedVariables false
set_option linter.unusedSimpArgs false

theorem b_up {a k m : Nat} (h : a < Dg.D ^ k) (hk : k ≤ m) : a < Dg.D ^ m := Nat.lt_of_lt_of_le h (Nat.pow_le_pow_right Dg.D_pos hk)
theorem b_B {a k : Nat} (h : a < Dg.D ^ k) : a < B ^ k := Nat.lt_of_lt_of_le h (D_le_B k)
theorem b_add {a b k m : Nat} (h : a < Dg.D ^ k) (h' : b < Dg.D ^ k) (hm : k + 1 = m) : a + b < Dg.D ^ m := by
  subst hm
  rw [Nat.pow_succ]
  have : Dg.D ^ k * 2 ≤ Dg.D ^ k * Dg.D := Nat.mul_le_mul_left _ (by decide)
  omega
theorem b_mul {a b j k m : Nat} (h : a < Dg.D ^ j) (h' : b < Dg.D ^ k) (hm : j + k = m) : a * b < Dg.D ^ m := by
  subst hm
  rw [Nat.pow_add]
  exact Nat.mul_lt_mul'' h h'
theorem b_sub {a b k : Nat} (h : a < Dg.D ^ k) : a - b < Dg.D ^ k := by omega
theorem b_div {a b k : Nat} (h : a < Dg.D ^ k) : a / b < Dg.D ^ k := Nat.lt_of_le_of_lt (Nat.div_le_self _ _) h
theorem b_mod {a b k : Nat} (h : a < Dg.D ^ k) : a % b < Dg.D ^ k := Nat.lt_of_le_of_lt (Nat.mod_le _ _) h
theorem b_gcd {a b k : Nat} (h : a < Dg.D ^ k) (h' : b < Dg.D ^ k) : Nat.gcd a b < Dg.D ^ k := by
  rcases Nat.eq_zero_or_pos a with rfl | ha
  · rw [Nat.gcd_zero_left]; exact h'
  · exact Nat.lt_of_le_of_lt (Nat.gcd_le_left b ha) h
theorem b_one {k : Nat} (hk : 1 ≤ k) : 1 < Dg.D ^ k := Nat.one_lt_pow (by omega) (by decide)
theorem b_zero {k : Nat} : 0 < Dg.D ^ k := Nat.pow_pos Dg.D_pos
theorem b_u64 {x : Nat} (h : x < B) : x < Dg.D ^ 3 := Nat.lt_trans h (by decide)
theorem b_pow {a K k m : Nat} (h : a < Dg.D ^ k) (hK : K ≠ 0) (hm : k * K = m) : a ^ K < Dg.D ^ m := by
  subst hm
  rw [Nat.pow_mul]
  exact Nat.pow_lt_pow_left h hK
theorem cmp_same {a b : Nat} (h : a = b) : cmpN a b = 0 := by rw [h]; exact cmpN_eq b

theorem c_of (x : Nat) (hx : x < B) (w : World) : Calls Tryz.prog 36 #[.int .u64 (x : Int)] w fun e w' => (∃ r, e = .returned r ∧ NatP w' r x) ∧ Gr w w' := of_nat_calls x hx w
theorem c_add {x y : Value} {a b : Nat} {w : World} (hx : NatAt w x a) (hy : NatAt w y b) {k : Nat} (ha : a < Dg.D ^ k) (hb : b < Dg.D ^ k) (hk : k ≤ 1000) :
    Calls Tryz.prog 46 #[x, y] w fun e w' => (∃ r, e = .returned r ∧ NatP w' r (a + b)) ∧ Gr w w' := add_calls x y a b w hx hy k (b_B ha) (b_B hb) (by omega)
theorem c_mul {x y : Value} {a b : Nat} {w : World} (hx : NatAt w x a) (hy : NatAt w y b) {k : Nat} (ha : a < Dg.D ^ k) (hb : b < Dg.D ^ k) (hk : k ≤ 1000) :
    Calls Tryz.prog 43 #[x, y] w fun e w' => (∃ r, e = .returned r ∧ NatP w' r (a * b)) ∧ Gr w w' := mul_calls x y a b w hx hy k (b_B ha) (b_B hb) (by omega)
theorem c_sub {x y : Value} {a b : Nat} {w : World} (hx : NatAt w x a) (hy : NatAt w y b) {k : Nat} (ha : a < Dg.D ^ k) (hb : b < Dg.D ^ k) (hk : k ≤ 1000) (hle : b ≤ a) :
    Calls Tryz.prog 40 #[x, y] w fun e w' => (∃ r, e = .returned (.tuple #[r, .nilIface]) ∧ NatP w' r (a - b)) ∧ Gr w w' :=
  (sub_calls x y a b w hx hy k (b_B ha) (b_B hb) (by omega)).mono fun _ _ h => ⟨h.1.2 hle, h.2⟩
theorem c_sub_no {x y : Value} {a b : Nat} {w : World} (hx : NatAt w x a) (hy : NatAt w y b) {k : Nat} (ha : a < Dg.D ^ k) (hb : b < Dg.D ^ k) (hk : k ≤ 1000) (hlt : a < b) :
    Calls Tryz.prog 40 #[x, y] w fun e w' => e = .returned (.tuple #[.pointer none, .iface 187 (.int .i64 2)]) ∧ Gr w w' :=
  (sub_calls x y a b w hx hy k (b_B ha) (b_B hb) (by omega)).mono fun _ _ h => ⟨h.1.1 hlt, h.2⟩
theorem c_div {x y : Value} {a b : Nat} {w : World} (hx : NatAt w x a) (hy : NatAt w y b) {k : Nat} (ha : a < Dg.D ^ k) (hb : b < Dg.D ^ k) (hk : k ≤ 1000) (hb0 : 0 < b) :
    Calls Tryz.prog 66 #[x, y] w fun e w' => (∃ q r, e = .returned (.tuple #[q, r, .nilIface]) ∧ NatP w' q (a / b) ∧ NatP w' r (a % b)) ∧ Gr w w' :=
  (div_calls x y a b w hx hy k (b_B ha) (b_B hb) (by omega)).mono fun _ _ h => ⟨h.1.2 hb0, h.2⟩
theorem c_div_no {x y : Value} {a b : Nat} {w : World} (hx : NatAt w x a) (hy : NatAt w y b) {k : Nat} (ha : a < Dg.D ^ k) (hb : b < Dg.D ^ k) (hk : k ≤ 1000) (hb0 : b = 0) :
    Calls Tryz.prog 66 #[x, y] w fun e w' => e = .returned (.tuple #[.pointer none, .pointer none, .iface 187 (.int .i64 3)]) ∧ Gr w w' :=
  (div_calls x y a b w hx hy k (b_B ha) (b_B hb) (by omega)).mono fun _ _ h => ⟨h.1.1 hb0, h.2⟩
theorem c_gcd {x y : Value} {a b : Nat} {w : World} (hT : BitTab w) (hx : NatAt w x a) (hy : NatAt w y b) {k : Nat} (ha : a < Dg.D ^ k) (hb : b < Dg.D ^ k) (hk : k ≤ 1000) :
    Calls Tryz.prog 69 #[x, y] w fun e w' => (∃ r, e = .returned r ∧ NatAt w' r (Nat.gcd a b)) ∧ Gr w w' := gcd_calls x y a b w hT hx hy k (b_B ha) (b_B hb) (by omega)
theorem c_cmp {x y : Value} {a b : Nat} {w : World} (hx : NatAt w x a) (hy : NatAt w y b) {k : Nat} (ha : a < Dg.D ^ k) (hb : b < Dg.D ^ k) (hk : k ≤ 1000) {z : Int} (hz : cmpN a b = z) :
    Calls Tryz.prog 47 #[x, y] w fun e w' => e = .returned (.int .i64 z) ∧ Gr w w' := by
  subst hz
  exact cmp_calls x y a b w hx hy k (b_B ha) (b_B hb) (by omega)
theorem c_zero {x : Value} {a : Nat} {w : World} (hx : NatAt w x a) {z : Bool} (hz : (a == 0) = z) : Calls Tryz.prog 71 #[x] w fun e w' => e = .returned (.bool z) ∧ Gr w w' := by
  subst hz
  exact (zero_calls x a w hx).mono fun _ _ h => ⟨h.1, h.2 ▸ Gr.rf w⟩
theorem c_text {x : Value} {a : Nat} {w : World} (hT : PowTab w) (hx : NatAt w x a) {k : Nat} (ha : a < Dg.D ^ k) (h1 : 1 ≤ k) (hk : k ≤ 1000) {X : ByteArray} (hX : X = ⟨(Lib.decDigits a).toArray⟩) :
    Calls Tryz.prog 41 #[x] w fun e w' => e = .returned (.string X) ∧ Gr w w' := by
  subst hX
  exact text_nat x a w hx k (b_B ha) h1 hk hT
theorem c_pow {x : Value} {a : Nat} {w : World} (hx : NatAt w x a) (K : Nat) {m : Nat} (ha : a < Dg.D ^ m) (hp : a ^ K < Dg.D ^ m) (h1 : 1 ≤ m) (hm : m ≤ 1000) (hK : K ≤ 1000000) :
    Calls Tryz.prog 37 #[x, .int .i64 (K : Int)] w fun e w' => (∃ r, e = .returned r ∧ NatAt w' r (a ^ K)) ∧ Gr w w' := pow_calls x a K w hx m (b_B ha) (b_B hp) h1 (by omega) hK
/-- N, its number behind a pointer. -/
theorem n_ptr (s : ByteArray) (hs : s.size ≤ 9223372036854775807) (w : World) :
    Calls Tryz.prog 64 #[.string s] w fun e w' => (∃ (b : Nat) (x : Value) (n : Nat), e = .returned (.tuple #[.pointer (some ⟨b, 0, none⟩), x]) ∧ NatP w' (.pointer (some ⟨b, 0, none⟩)) n ∧ RN w' x n ∧ n < Dg.D ^ 14) ∧ Gr w w' := by
  refine (n_calls s hs w).mono ?_
  rintro e w' ⟨⟨v, x, n, rfl, hv, h⟩, hg⟩
  obtain ⟨b, hb⟩ := hv.1
  subst hb
  exact ⟨⟨b, x, n, rfl, hv, h⟩, hg⟩
theorem c_sub_any {x y : Value} {a b : Nat} {w : World} (hx : NatAt w x a) (hy : NatAt w y b) {k : Nat} (ha : a < Dg.D ^ k) (hb : b < Dg.D ^ k) (hk : k ≤ 1000) :
    Calls Tryz.prog 40 #[x, y] w fun e w' => (∃ v, e = .returned v) ∧ Gr w w' := by
  rcases Nat.lt_or_ge a b with h | h
  · exact (c_sub_no hx hy ha hb hk h).mono fun _ _ h => ⟨⟨_, h.1⟩, h.2⟩
  · exact (c_sub hx hy ha hb hk h).mono fun _ _ h => ⟨(by obtain ⟨r, h1, _⟩ := h.1; exact ⟨_, h1⟩), h.2⟩
theorem c_div_any {x y : Value} {a b : Nat} {w : World} (hx : NatAt w x a) (hy : NatAt w y b) {k : Nat} (ha : a < Dg.D ^ k) (hb : b < Dg.D ^ k) (hk : k ≤ 1000) :
    Calls Tryz.prog 66 #[x, y] w fun e w' => (∃ v, e = .returned v) ∧ Gr w w' := by
  rcases Nat.eq_zero_or_pos b with h | h
  · exact (c_div_no hx hy ha hb hk h).mono fun _ _ h => ⟨⟨_, h.1⟩, h.2⟩
  · exact (c_div hx hy ha hb hk h).mono fun _ _ h => ⟨(by obtain ⟨q, r, h1, _⟩ := h.1; exact ⟨_, h1⟩), h.2⟩
theorem c_root {x : Value} {a : Nat} {w : World} (hx : NatAt w x a) {k : Nat} (ha : a < Dg.D ^ k) (h1 : 1 ≤ k) (hk : k ≤ 1000) :
    Calls Tryz.prog 73 #[x, .int .i64 2] w fun e w' => (∃ v, e = .returned v) ∧ Gr w w' :=
  (root_calls x a 2 w hx k (b_B ha) h1 (by omega) (by decide) (by decide)).mono fun _ _ h => ⟨(by obtain ⟨v, r, h1, _⟩ := h.1; exact ⟨_, h1⟩), h.2⟩
theorem c_pow3 {x : Value} {a : Nat} {w : World} (hx : NatAt w x a) {k : Nat} (ha : a < Dg.D ^ k) (h1 : 1 ≤ k) (hk : k ≤ 300) :
    Calls Tryz.prog 37 #[x, .int .i64 3] w fun e w' => (∃ v, e = .returned v) ∧ Gr w w' :=
  (c_pow hx 3 (m := 3 * k) (b_up ha (by omega)) (b_pow ha (by decide) (by omega)) (by omega) (by omega) (by decide)).mono fun _ _ h => ⟨(by obtain ⟨v, h1, _⟩ := h.1; exact ⟨_, h1⟩), h.2⟩
end Go.Proofs.YtglbdafcfcmffaaGreatDoor
