/- The walk of the law FnExactTransducerText, and its row's condition on the library's table. -/
import Derived.Test.YtjclfbcofclopaaDoorPureTr3
import Derived.Test.YtjclfbcofclopaaDoorOpFnExactTransducerText
import Derived.Test.YtjclfbcofclopaaDoorRows
import Derived.LaidSub
import Derived.MakeChecks
namespace Go.Proofs.YtjclfbcofclopaaDoor.WFnExactTransducerText
open Go.RowKit Go.Proofs.YtjclfbcofclopaaDoorW.PrintWords Go.Proofs.YtjclfbcofclopaaDoor.PureTr Go.Proofs.YtjclfbcofclopaaDoor.PTtA Go.Proofs.YtjclfbcofclopaaDoor.PTtB Go.Proofs.YtjclfbcofclopaaDoor.Txt
theorem glob_of_laid {W : World} (h : laidMetH Tryd.prog Rows.fnExactTransducerTextRow.laid W) : Glob W := by
  rw [MakeChecks.laidMetH_plain _ _ _ (by kernel_rfl)] at h
  have h2 := h.filter (fun x => x.1 == "internal/strconv.uint64pow10")
  exact Lib.tabIs_of_head (g := 3) (t := 235) (e := 152) (n := 20) (rest := []) (by kernel_rfl) (by kernel_rfl) (by kernel_rfl) (by kernel_rfl) (by kernel_rfl) (by kernel_rfl) h2
theorem walk (W : World) (hG : Glob W) (l0 : List Value) (y0 : Int × List Bool × List LE) (k0 : kTr.K W y0 l0) (b0 : (Lit.int .i64 y0.1).wf = true ∧ (y0.2.1.length ≤ 9223372036854775807 ∧ ∀ z ∈ y0.2.1, True) ∧ (y0.2.2.length ≤ 9223372036854775807 ∧ ∀ z ∈ y0.2.2, B131 z)) :
    Calls Tryd.prog 3 #[.agg l0.toArray] W fun e W' => e = .returned (.bool true) ∧ Below W.heap.size W W' := by
  obtain ⟨A1, c1, A2, c2, rfl, h1, r1, h2, r2⟩ := kTr_open k0
  obtain ⟨k, hk⟩ := law_text y0.1 y0.2.1 y0.2.2 b0.2.1.1 b0.2.2.1 (fun x hx => ⟨(b0.2.2.2 x hx).2.2.1, (b0.2.2.2 x hx).2.2.2⟩)
  exact laws_FnExactTransducerText.calls k y0.1 A1 c1 y0.2.1 A2 c2 y0.2.2 true W r1 h1 r2 h2 hG rfl hk
end Go.Proofs.YtjclfbcofclopaaDoor.WFnExactTransducerText
