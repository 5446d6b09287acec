/- The law FnExactValidDeed: its walk. No condition. -/
import Derived.Test.YtnlcddjdedidlaaPVDdx
import Derived.Test.YtnlcddjdedidlaaReads
namespace Go.Proofs.Ytnlcddjdedidlaa.WFnExactValidDeed
open Go.RowKit Go.Proofs.YtnlcddjdedidlaaW.PrintWords Go.Proofs.Ytnlcddjdedidlaa.PVDd
theorem pure (a b : Int) : laws_FnExactValidDeed.f a b = some true := by
  unfold laws_FnExactValidDeed.f laws_toDeed.f spec_ValidDeed.f impl_ValidDeed.f spec_l08Deed.f spec_l00In.f impl_within.f
  by_cases h1 : 1 ≤ a <;> by_cases h2 : a ≤ 6 <;> by_cases h3 : 0 ≤ b <;> by_cases h4 : b ≤ 999 <;> simp [h1, h2, h3, h4]
theorem walk (W : World) (l0 : List Value) (y0 : Int × Int) (k0 : (Kd.pair (Kd.int .i64) (Kd.int .i64)).K W y0 l0) (_b0 : (Lit.int .i64 y0.1).wf = true ∧ (Lit.int .i64 y0.2).wf = true) :
    Calls Try.prog 3 #[.agg l0.toArray] W fun e W' => e = .returned (.bool true) ∧ Below W.heap.size W W' := by
  obtain ⟨_, _, rfl, rfl, rfl⟩ := k0
  exact laws_FnExactValidDeed.calls y0.1 y0.2 true W (pure _ _)
end Go.Proofs.Ytnlcddjdedidlaa.WFnExactValidDeed
