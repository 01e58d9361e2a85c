/- Layer 2's laws: the reference's contracts at bounded numbers. -/
import Derived.Test.YtglbdafcfcmffaaGreatDoorUb
import Derived.Test.YtglbdafcfcmffaaGreatDoorSf
namespace Go.Proofs.YtglbdafcfcmffaaGreatDoor
open Go.RowKit Go.Extern.Stop Go.Stop Go.Extern Go.Sort
set_option linter.unusedVariables false
set_option linter.unusedSimpArgs false

theorem r_ofU (x : Nat) (hx : x < B) (w : World) : Calls Tryz.prog 39 #[.int .u64 (x : Int)] w fun e w' => (∃ r, e = .returned r ∧ RN w' r x) ∧ Gr w w' := ofU_calls x hx w
theorem r_add {x y : Value} {a b : Nat} {w : World} (hx : RN w x a) (hy : RN w y b) {k : Nat} (ha : a < Dg.D ^ k) (hb : b < Dg.D ^ k) (hk : k ≤ 1000) :
    Calls Tryz.prog 68 #[x, y] w fun e w' => (∃ r, e = .returned r ∧ RN w' r (a + b)) ∧ Gr w w' := radd_calls x y a b w hx hy k ha hb (by omega)
theorem r_mul {x y : Value} {a b : Nat} {w : World} (hx : RN w x a) (hy : RN w y b) {k : Nat} (ha : a < Dg.D ^ k) (hb : b < Dg.D ^ k) (hk : k ≤ 1000) :
    Calls Tryz.prog 44 #[x, y] w fun e w' => (∃ r, e = .returned r ∧ RN w' r (a * b)) ∧ Gr w w' := rmul_calls x y a b w hx hy k ha hb (by omega)
theorem r_sub {x y : Value} {a b : Nat} {w : World} (hx : RN w x a) (hy : RN w y b) {k : Nat} (ha : a < Dg.D ^ k) (hb : b < Dg.D ^ k) (hk : k ≤ 1000) (hle : b ≤ a) :
    Calls Tryz.prog 45 #[x, y] w fun e w' => (∃ r, e = .returned r ∧ RN w' r (a - b)) ∧ Gr w w' := rsub_calls x y a b w hx hy hle k ha (by omega)
theorem r_cmp {x y : Value} {a b : Nat} {w : World} (hx : RN w x a) (hy : RN w y b) {k : Nat} (ha : a < Dg.D ^ k) (hb : b < Dg.D ^ k) (hk : k ≤ 1000) {z : Int} (hz : cmpN a b = z) :
    Calls Tryz.prog 65 #[x, y] w fun e w' => e = .returned (.int .i64 z) ∧ Gr w w' := by
  subst hz
  exact rcmp_calls x y a b w hx hy k ha hb (by omega)
theorem r_div {x y : Value} {a b : Nat} {w : World} (hx : RN w x a) (hy : RN w y b) {k : Nat} (ha : a < Dg.D ^ k) (hb : b < Dg.D ^ k) (hk : k ≤ 1000) (hb0 : 0 < b) :
    Calls Tryz.prog 67 #[x, y] w fun e w' => (∃ q r, e = .returned (.tuple #[q, r]) ∧ RN w' q (a / b) ∧ RN w' r (a % b)) ∧ Gr w w' := rdiv_calls x y a b w hx hy hb0 (k + 1) (b_up ha (by omega)) (b_up hb (by omega)) (by omega) (by omega)
theorem r_gcd {x y : Value} {a b : Nat} {w : World} (hx : RN w x a) (hy : RN w y b) {k : Nat} (ha : a < Dg.D ^ k) (hb : b < Dg.D ^ k) (hk : k ≤ 1000) :
    Calls Tryz.prog 70 #[x, y] w fun e w' => (∃ r, e = .returned r ∧ RN w' r (Nat.gcd a b)) ∧ Gr w w' := rgcd_calls x y a b w hx hy (k + 1) (b_up ha (by omega)) (b_up hb (by omega)) (by omega) (by omega)
theorem r_pow {x : Value} {a : Nat} {w : World} (hx : RN w x a) (K : Nat) {k : Nat} (ha : a < Dg.D ^ k) (hp : a ^ (K + 1) < Dg.D ^ k) (h1 : 1 ≤ k) (hk : k ≤ 1000) (hK : K ≤ 1000000) :
    Calls Tryz.prog 38 #[x, .int .i64 (K : Int)] w fun e w' => (∃ r, e = .returned r ∧ RN w' r (a ^ K)) ∧ Gr w w' := rpow_calls x a K w hx k hp ha (b_one h1) (by omega) hK
theorem r_text {x : Value} {a : Nat} {w : World} (hx : RN w x a) {k : Nat} (ha : a < Dg.D ^ k) (hk : k ≤ 250) {X : ByteArray} (hX : X = ⟨(Lib.decDigits a).toArray⟩) :
    Calls Tryz.prog 42 #[x] w fun e w' => e = .returned (.string X) ∧ Gr w w' := by
  subst hX
  exact rtext_calls x a w hx (Nat.lt_of_lt_of_le ha (Nat.le_trans (Nat.le_of_eq (D_pow k)) (Nat.le_trans (Nat.pow_le_pow_right (by decide) (show 9 * k ≤ 9 * 500 by omega)) (Nat.le_of_eq (D_pow 500).symm))))
theorem c_sub_ptr {x y : Value} {a b : Nat} {w : World} (hx : NatAt w x a) (hy : NatAt w y b) {k : Nat} (ha : a < Dg.D ^ k) (hb : b < Dg.D ^ k) (hk : k ≤ 1000) (hle : b ≤ a) :
    Calls Tryz.prog 40 #[x, y] w fun e w' => (∃ p : Nat, e = .returned (.tuple #[.pointer (some ⟨p, 0, none⟩), .nilIface]) ∧ NatP w' (.pointer (some ⟨p, 0, none⟩)) (a - b)) ∧ Gr w w' := by
  refine (c_sub hx hy ha hb hk hle).mono ?_
  rintro e w' ⟨⟨r, rfl, hr⟩, hg⟩
  obtain ⟨p, hp⟩ := hr.1
  subst hp
  exact ⟨⟨p, rfl, hr⟩, hg⟩
/-- N, its number behind a pointer and behind a slice whose length tells whether it is nought. -/
theorem n_sl (s : ByteArray) (hs : s.size ≤ 9223372036854775807) (w : World) :
    Calls Tryz.prog 64 #[.string s] w fun e w' => (∃ (b : Nat) (av : Option Addr) (lx cv n : Nat), e = .returned (.tuple #[.pointer (some ⟨b, 0, none⟩), .slice av lx cv]) ∧ NatP w' (.pointer (some ⟨b, 0, none⟩)) n ∧ RN w' (.slice av lx cv) n ∧ n < Dg.D ^ 14 ∧ (lx = 0 ↔ n = 0)) ∧ Gr w w' := by
  refine (n_ptr s hs w).mono ?_
  rintro e w' ⟨⟨b, x, n, rfl, hv, hx, hn⟩, hg⟩
  obtain ⟨av, cv, rfl⟩ := rn_len hx
  refine ⟨⟨b, av, _, cv, n, rfl, hv, hx, hn, ?_⟩, hg⟩
  constructor
  · intro h
    rcases Nat.eq_zero_or_pos n with h2 | h2
    · exact h2
    · have := digs_len_pos n h2; omega
  · intro h
    rw [h, Dg.digs_zero]; rfl
theorem len_eq_zero {l n : Nat} {b : Bool} (h : l = 0 ↔ n = 0) (hb : (n == 0) = b) : ((l : Int) == 0) = b := by
  subst hb
  by_cases e : n = 0
  · have := h.2 e; subst this; subst e; rfl
  · have : l ≠ 0 := fun e2 => e (h.1 e2)
    rw [beq_eq_false_iff_ne.2 e]
    exact beq_eq_false_iff_ne.2 (by omega)
theorem numeral_T (n m : Nat) (h : n < 10 ^ m) (h0 : 0 < m) (hm : m ≤ 4000) : NumT ⟨(Lib.decDigits n).toArray⟩ ∧ dv (⟨(Lib.decDigits n).toArray⟩ : ByteArray).data.toList = n := by
  obtain ⟨h1, h2, h3, h4⟩ := numeral n
  have hl : (⟨(Lib.decDigits n).toArray⟩ : ByteArray).size = (Lib.decDigits n).length := by rw [Lib.size_eq]
  have hlen : (Lib.decDigits n).length ≤ 4000 := Nat.le_trans (nd_le m n h0 h) hm
  have hpos : 0 < (Lib.decDigits n).length := List.length_pos_iff.2 h3
  refine ⟨⟨by omega, by omega, ?_, h1⟩, h2⟩
  rcases h4 with h4 | h4
  · exact .inl (by omega)
  · refine .inr fun hp e => h4 ?_
    rw [← at_list _ 0 hp (by show 0 < (Lib.decDigits n).length; exact hpos)] at e
    rw [List.head?_eq_getElem?, List.getElem?_eq_getElem hpos]
    congr 1
    exact UInt8.toNat_inj.1 e
theorem ten_bd {n k : Nat} (h : n < Dg.D ^ k) : n < 10 ^ (9 * k) := Nat.lt_of_lt_of_le h (Nat.le_of_eq (D_pow k))
/-- GetN of a number's numeral. -/
theorem r_getN {n k : Nat} {X : ByteArray} {w : World} (hX : X = ⟨(Lib.decDigits n).toArray⟩) (h : n < Dg.D ^ k) (h1 : 1 ≤ k) (hk : k ≤ 400) :
    Calls Tryz.prog 72 #[.string X] w fun e w' => (∃ r, e = .returned (.tuple #[r, .bool true]) ∧ RN w' r n) ∧ Gr w w' := by
  subst hX
  obtain ⟨h1, h2⟩ := numeral_T n (9 * k) (ten_bd h) (by omega) (by omega)
  have h3 := rgetN_calls ⟨(Lib.decDigits n).toArray⟩ w
  rw [h2] at h3
  exact h3.mono fun _ _ hh => ⟨hh.1.1 h1, hh.2⟩
/-- What (y % k + k) % k comes to: the walk's two spellings, a natural number. -/
theorem rem_nat (y k : Int) (hk : 0 < k) : ∃ R : Nat, (y.tmod k + k) % k = (R : Int) ∧ y.tmod k % k = (R : Int) ∧ (R : Int) < k ∧ -k < y.tmod k ∧ y.tmod k < k := by
  have h0 := Int.emod_nonneg (y.tmod k + k) (by omega : k ≠ 0)
  have h1 := Int.emod_lt_of_pos (y.tmod k + k) hk
  have h2 := Int.lt_tmod_of_pos y hk
  have h3 := Int.tmod_lt_of_pos y hk
  refine ⟨((y.tmod k + k) % k).toNat, by omega, ?_, by omega, h2, h3⟩
  rw [← Int.add_emod_right]
  omega
end Go.Proofs.YtglbdafcfcmffaaGreatDoor
