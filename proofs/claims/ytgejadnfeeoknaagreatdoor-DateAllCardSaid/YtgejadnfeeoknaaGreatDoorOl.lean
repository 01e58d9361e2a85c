/- Layers 2 to 5: what the given rows' condition on the listed variables gives a walk: the tables. -/
import Derived.Test.YtgejadnfeeoknaaGreatDoorFr
import Derived.Test.YtgejadnfeeoknaaGreatDoorNv
import Derived.Lib.LaidTab
import Derived.MakeChecks
namespace Go.Proofs.YtgejadnfeeoknaaGreatDoor
open Go.RowKit

theorem Tryz.gBit : Tryz.prog.globalNamed "math/bits.deBruijn64tab" = some 7 := by kernel_rfl
theorem powTab_of {l : List (String × DataW Unit)} {W : World} (hl : l.filter (fun x => x.1 == "internal/strconv.uint64pow10") = [("internal/strconv.uint64pow10", Rows.laid_internal_strconv_uint64pow10)]) (h : laidMetH Tryz.prog l W) : PowTab W := by
  have h1 := laidMetH.filter (fun x => x.1 == "internal/strconv.uint64pow10") h
  rw [hl, _root_.Go.MakeChecks.laidMetH_plain _ _ _ (by kernel_rfl)] at h1
  have e : (Rows.laid_internal_strconv_uint64pow10 : DataW Unit) = Lib.tabData .u64 Lib.pow10Tab := by kernel_rfl
  rw [e] at h1
  exact Lib.tabIs_of_head Tryz.gPow (t := 244) (e := 105) (n := 20) (by kernel_rfl) (by kernel_rfl) (by kernel_rfl) (by kernel_rfl) (by kernel_rfl) h1
theorem bitTab_of {l : List (String × DataW Unit)} {W : World} (hl : l.filter (fun x => x.1 == "math/bits.deBruijn64tab") = [("math/bits.deBruijn64tab", Rows.laid_math_bits_deBruijn64tab)]) (h : laidMetH Tryz.prog l W) : BitTab W := by
  have h1 := laidMetH.filter (fun x => x.1 == "math/bits.deBruijn64tab") h
  rw [hl, _root_.Go.MakeChecks.laidMetH_plain _ _ _ (by kernel_rfl)] at h1
  have e : (Rows.laid_math_bits_deBruijn64tab : DataW Unit) = Lib.tabData .u8 (Lib.deBruijn64tab.map fun (n : Nat) => (n : Int)) := by kernel_rfl
  rw [e] at h1
  have h2 := Lib.tabIs_of_head Tryz.gBit (t := 255) (e := 5) (n := 64) (by kernel_rfl) (by kernel_rfl) (by kernel_rfl) (by kernel_rfl) (by kernel_rfl) h1
  intro j hj
  have h3 := h2.cell Tryz.gBit j (by rw [List.length_map]; exact hj)
  rw [h3]
  congr 2
  rw [List.getD_eq_getElem?_getD, List.getD_eq_getElem?_getD, List.getElem?_map, List.getElem?_eq_getElem hj]
  rfl
/-- What the laws of layers 2 to 5 ask of the variables. -/
def Met2 (W : World) : Prop := Has W ∧ BitTab W ∧ PowTab W
theorem met2_of {l : List (String × DataW Unit)} {W : World} (h1 : l.filter (fun x => x.1 == "errors.errorType") = [("errors.errorType", Rows.laid_errors_errorType)]) (h2 : l.filter (fun x => x.1 == "math/bits.deBruijn64tab") = [("math/bits.deBruijn64tab", Rows.laid_math_bits_deBruijn64tab)])
    (h3 : l.filter (fun x => x.1 == "internal/strconv.uint64pow10") = [("internal/strconv.uint64pow10", Rows.laid_internal_strconv_uint64pow10)]) (h : laidMetH Tryz.prog l W) : Met2 W := ⟨has_of h1 h, bitTab_of h2 h, powTab_of h3 h⟩
end Go.Proofs.YtgejadnfeeoknaaGreatDoor
