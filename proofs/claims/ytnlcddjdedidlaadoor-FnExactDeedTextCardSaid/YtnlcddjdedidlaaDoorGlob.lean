/- The row's condition on the library's table gives the walks' one. -/
import Derived.Test.YtnlcddjdedidlaaDoorRows
import Derived.Test.YtnlcddjdedidlaaDoorText
import Derived.LaidSub
import Derived.MakeChecks
namespace Go.Proofs.YtnlcddjdedidlaaDoor.Glb
open Go.Proofs.YtnlcddjdedidlaaDoor.Txt
theorem glob_of_laid {W : World} (h : laidMetH Tryd.prog Rows.fnExactDeedTextRow.laid W) : Glob W := by
  rw [MakeChecks.laidMetH_plain _ _ _ (by kernel_rfl)] at h
  have h2 := h.filter (fun x => x.1 == "internal/strconv.uint64pow10")
  exact Lib.tabIs_of_head (g := 0) (t := 44) (e := 37) (n := 20) (rest := []) (by kernel_rfl) (by kernel_rfl) (by kernel_rfl) (by kernel_rfl) (by kernel_rfl) (by kernel_rfl) h2
end Go.Proofs.YtnlcddjdedidlaaDoor.Glb
