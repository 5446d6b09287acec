/- What the parameters of the law FnExactTransducerText are made of. No condition. -/
import Derived.Test.YtjclfbcofclopaaDoorPTtAx
import Derived.Test.YtjclfbcofclopaaDoorReads
import Derived.KernelRfl
namespace Go.Proofs.YtjclfbcofclopaaDoor.PTtA
open Go.RowKit Go.Proofs.YtjclfbcofclopaaDoorW.PrintWords Go.Proofs.YtjclfbcofclopaaDoor.Reads
def B131 (y : S131) : Prop := (Lit.int .i64 y.f0).wf = true ∧ (Lit.int .i64 y.f1).wf = true ∧ y.f2.size ≤ 9223372036854775807 ∧ y.f3.size ≤ 9223372036854775807
theorem opens131 : Opens Tryd.prog 131 k131 B131 := opens_iso _ (fun p => (⟨p.1, p.2.1, p.2.2.1, p.2.2.2⟩ : S131)) (fun _ => rfl) (opens_struct Tryd.underlying131 (by kernel_rfl) (fields_cons rfl (opens_int Tryd.underlying2 (by kernel_rfl)) (fields_cons rfl (opens_int Tryd.underlying2 (by kernel_rfl)) (fields_cons rfl (opens_string Tryd.underlying9 (by kernel_rfl)) (fields_one rfl (opens_string Tryd.underlying9 (by kernel_rfl)))))))
end Go.Proofs.YtjclfbcofclopaaDoor.PTtA
