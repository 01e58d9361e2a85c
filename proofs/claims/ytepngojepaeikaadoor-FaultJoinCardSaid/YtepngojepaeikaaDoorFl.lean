/- Layer 1: the laws' small functions: a code of a number; a text cut. -/
import Derived.Test.YtepngojepaeikaaDoorFk
namespace Go.Proofs.YtepngojepaeikaaDoor
open Go.RowKit Go.Extern.Stop Go.Stop Go.Extern
set_option linter.unusedVariables false
set_option linter.unusedSimpArgs false

theorem tmod_nn (a k : Int) (h : 0 ≤ a) : a.tmod k = a % k := Int.tmod_eq_emod_of_nonneg h
theorem tmod_neg (a k : Int) (h : a < 0) : a.tmod k = -((-a) % k) := by
  have := Int.neg_tmod (-a) k
  rw [Int.neg_neg] at this
  rw [this, tmod_nn _ _ (by omega)]
theorem ret_int {k : IntKind} {a b : Int} (h : a = b) : Ending.returned (.int k a) = .returned (.int k b) := by rw [h]
theorem ret_str {a b : ByteArray} (h : a = b) : Ending.returned (.string a) = .returned (.string b) := by rw [h]
theorem codeN_bd (n : Int) : 1 ≤ n % 11 + 1 ∧ n % 11 + 1 ≤ 11 := by omega
theorem codeOf_calls (n : Int) (h0 : -9223372036854775808 ≤ n) (h1 : n ≤ 9223372036854775807) (w : World) :
    Calls Tryd.prog 11 #[.int .i64 n] w fun e w' => e = .returned (.int .i64 (n % 11 + 1)) ∧ w = w' := by
  have hb : -10 ≤ n.tmod 11 ∧ n.tmod 11 ≤ 10 := by
    by_cases h : 0 ≤ n
    · rw [tmod_nn _ _ h]; omega
    · rw [tmod_neg _ _ (by omega)]; omega
  have he : n.tmod 11 % 11 + 1 = n % 11 + 1 := by
    by_cases h : 0 ≤ n
    · rw [tmod_nn _ _ h]; omega
    · rw [tmod_neg _ _ (by omega)]; omega
  have HE := Lib.hid he
  clear he h0 h1
  go_enter Tryd.func11, Tryd.ntmps11
  go_wp2
  go_ret
  exact ⟨ret_int HE.out, rfl⟩
theorem text_calls (s : ByteArray) (k : Int) (hk : 0 ≤ k) (hk2 : k ≤ 1000000) (hs : s.size ≤ 9223372036854775807) (w : World) :
    Calls Tryd.prog 12 #[.string s, .int .i64 k] w fun e w' => e = .returned (.string (s.extract 0 (min s.size k.toNat))) ∧ w = w' := by
  go_enter Tryd.func12, Tryd.ntmps12
  go_wp2
  go_ret
  exact ⟨ret_str (by rw [show (min (s.size : Int) k).toNat = min s.size k.toNat by omega]), rfl⟩
end Go.Proofs.YtepngojepaeikaaDoor
