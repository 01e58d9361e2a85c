/- Layer 1: what the given rows' condition on the listed variables gives a walk; Layers 2 to 5: what the given rows' condition on the listed variables gives a walk: the tables. -/
import Derived.Test.YtcjjgdoafkdeaaaGreatDoorGa
import Derived.Test.YtcjjgdoafkdeaaaGreatDoorRows
import Derived.LaidSub
import Derived.LaidHandle
import Derived.LaidLaws
import Derived.OpenShut
import Derived.Test.YtcjjgdoafkdeaaaGreatDoorGi
import Derived.Lib.LaidTab
import Derived.MakeChecks
namespace Go.Proofs.YtcjjgdoafkdeaaaGreatDoor
section
open Go.RowKit

theorem bd_str {s : ByteArray} (h : s.size ≤ maxLen) : s.size ≤ 9223372036854775807 := by simpa [maxLen] using h
theorem Tryz.gErr : Tryz.prog.globalNamed "errors.errorType" = some 0 := by kernel_rfl
theorem Tryz.rtOf : (Tryz.prog.cutTypes.find? (·.1 == "internal/reflectlite.rtype")).map (·.2) = some 261 := by kernel_rfl
theorem Tryz.oneErr : ((List.range 336).filter fun t => Tryz.prog.rowNamed t [101, 114, 114, 111, 114]) = [33] := by kernel_rfl
theorem Tryz.typesSize : Tryz.prog.types.size = 336 := by kernel_rfl
theorem has_of_one {W : World} (h : laidMetH Tryz.prog [("errors.errorType", Rows.laid_errors_errorType)] W) : Has W := by
  have h' : laidMet Tryz.prog [] W ∧ handlesMet Tryz.prog [("errors.errorType", Rows.laid_errors_errorType)] W := h
  obtain ⟨name, u, ty, e1, e2, e3, e4, e5⟩ := h'.2 _ (List.mem_singleton.2 rfl)
  have en : name = [101, 114, 114, 111, 114] := (Option.some.inj e1).symm
  subst en
  obtain rfl := Option.some.inj (Tryz.rtOf.symm.trans e2)
  have hm : ty ∈ (List.range 336).filter fun t => Tryz.prog.rowNamed t [101, 114, 114, 111, 114] := List.mem_filter.2 ⟨List.mem_range.2 (by rw [← Tryz.typesSize]; exact e3), e4⟩
  rw [Tryz.oneErr] at hm
  obtain rfl := List.mem_singleton.1 hm
  have hh : typeHandle Tryz.prog 33 = .pointer (some ⟨16, 33, none⟩) := by kernel_rfl
  rw [hh] at e5
  unfold Has
  simpa using World.var?_cell Tryz.gErr e5 0
theorem has_of {l : List (String × DataW Unit)} {W : World} (hl : l.filter (fun x => x.1 == "errors.errorType") = [("errors.errorType", Rows.laid_errors_errorType)]) (h : laidMetH Tryz.prog l W) : Has W := by
  have := laidMetH.filter (fun x => x.1 == "errors.errorType") h
  rw [hl] at this
  exact has_of_one this
end
section
open Go.RowKit

theorem Tryz.gBit : Tryz.prog.globalNamed "math/bits.deBruijn64tab" = some 9 := by kernel_rfl
theorem powTab_of {l : List (String × DataW Unit)} {W : World} (hl : l.filter (fun x => x.1 == "internal/strconv.uint64pow10") = [("internal/strconv.uint64pow10", Rows.laid_internal_strconv_uint64pow10)]) (h : laidMetH Tryz.prog l W) : PowTab W := by
  have h1 := laidMetH.filter (fun x => x.1 == "internal/strconv.uint64pow10") h
  rw [hl, _root_.Go.MakeChecks.laidMetH_plain _ _ _ (by kernel_rfl)] at h1
  have e : (Rows.laid_internal_strconv_uint64pow10 : DataW Unit) = Lib.tabData .u64 Lib.pow10Tab := by kernel_rfl
  rw [e] at h1
  exact Lib.tabIs_of_head Tryz.gPow (t := 282) (e := 56) (n := 20) (by kernel_rfl) (by kernel_rfl) (by kernel_rfl) (by kernel_rfl) (by kernel_rfl) h1
theorem bitTab_of {l : List (String × DataW Unit)} {W : World} (hl : l.filter (fun x => x.1 == "math/bits.deBruijn64tab") = [("math/bits.deBruijn64tab", Rows.laid_math_bits_deBruijn64tab)]) (h : laidMetH Tryz.prog l W) : BitTab W := by
  have h1 := laidMetH.filter (fun x => x.1 == "math/bits.deBruijn64tab") h
  rw [hl, _root_.Go.MakeChecks.laidMetH_plain _ _ _ (by kernel_rfl)] at h1
  have e : (Rows.laid_math_bits_deBruijn64tab : DataW Unit) = Lib.tabData .u8 (Lib.deBruijn64tab.map fun (n : Nat) => (n : Int)) := by kernel_rfl
  rw [e] at h1
  have h2 := Lib.tabIs_of_head Tryz.gBit (t := 298) (e := 5) (n := 64) (by kernel_rfl) (by kernel_rfl) (by kernel_rfl) (by kernel_rfl) (by kernel_rfl) h1
  intro j hj
  have h3 := h2.cell Tryz.gBit j (by rw [List.length_map]; exact hj)
  rw [h3]
  congr 2
  rw [List.getD_eq_getElem?_getD, List.getD_eq_getElem?_getD, List.getElem?_map, List.getElem?_eq_getElem hj]
  rfl
/-- What the laws of layers 2 to 5 ask of the variables. -/
def Met2 (W : World) : Prop := Has W ∧ BitTab W ∧ PowTab W
theorem met2_of {l : List (String × DataW Unit)} {W : World} (h1 : l.filter (fun x => x.1 == "errors.errorType") = [("errors.errorType", Rows.laid_errors_errorType)]) (h2 : l.filter (fun x => x.1 == "math/bits.deBruijn64tab") = [("math/bits.deBruijn64tab", Rows.laid_math_bits_deBruijn64tab)])
    (h3 : l.filter (fun x => x.1 == "internal/strconv.uint64pow10") = [("internal/strconv.uint64pow10", Rows.laid_internal_strconv_uint64pow10)]) (h : laidMetH Tryz.prog l W) : Met2 W := ⟨has_of h1 h, bitTab_of h2 h, powTab_of h3 h⟩
end
end Go.Proofs.YtcjjgdoafkdeaaaGreatDoor
