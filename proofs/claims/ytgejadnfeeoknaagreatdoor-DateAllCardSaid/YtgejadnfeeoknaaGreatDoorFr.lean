/- Layer 1: what the given rows' condition on the listed variables gives a walk. -/
import Derived.Test.YtgejadnfeeoknaaGreatDoorGa
import Derived.Test.YtgejadnfeeoknaaGreatDoorRows
import Derived.LaidSub
import Derived.LaidHandle
import Derived.LaidLaws
import Derived.OpenShut
namespace Go.Proofs.YtgejadnfeeoknaaGreatDoor
open Go.RowKit

theorem bd_str {s : ByteArray} (h : s.size ≤ maxLen) : s.size ≤ 9223372036854775807 := by simpa [maxLen] using h
theorem Tryz.gErr : Tryz.prog.globalNamed "errors.errorType" = some 0 := by kernel_rfl
theorem Tryz.rtOf : (Tryz.prog.cutTypes.find? (·.1 == "internal/reflectlite.rtype")).map (·.2) = some 181 := by kernel_rfl
theorem Tryz.oneErr : ((List.range 299).filter fun t => Tryz.prog.rowNamed t [101, 114, 114, 111, 114]) = [26] := by kernel_rfl
theorem Tryz.typesSize : Tryz.prog.types.size = 299 := by kernel_rfl
theorem has_of_one {W : World} (h : laidMetH Tryz.prog [("errors.errorType", Rows.laid_errors_errorType)] W) : Has W := by
  have h' : laidMet Tryz.prog [] W ∧ handlesMet Tryz.prog [("errors.errorType", Rows.laid_errors_errorType)] W := h
  obtain ⟨name, u, ty, e1, e2, e3, e4, e5⟩ := h'.2 _ (List.mem_singleton.2 rfl)
  have en : name = [101, 114, 114, 111, 114] := (Option.some.inj e1).symm
  subst en
  obtain rfl := Option.some.inj (Tryz.rtOf.symm.trans e2)
  have hm : ty ∈ (List.range 299).filter fun t => Tryz.prog.rowNamed t [101, 114, 114, 111, 114] := List.mem_filter.2 ⟨List.mem_range.2 (by rw [← Tryz.typesSize]; exact e3), e4⟩
  rw [Tryz.oneErr] at hm
  obtain rfl := List.mem_singleton.1 hm
  have hh : typeHandle Tryz.prog 26 = .pointer (some ⟨16, 26, none⟩) := by kernel_rfl
  rw [hh] at e5
  unfold Has
  simpa using World.var?_cell Tryz.gErr e5 0
theorem has_of {l : List (String × DataW Unit)} {W : World} (hl : l.filter (fun x => x.1 == "errors.errorType") = [("errors.errorType", Rows.laid_errors_errorType)]) (h : laidMetH Tryz.prog l W) : Has W := by
  have := laidMetH.filter (fun x => x.1 == "errors.errorType") h
  rw [hl] at this
  exact has_of_one this
end Go.Proofs.YtgejadnfeeoknaaGreatDoor
