/- The law FnExactDeedText as a plain function answers true; the walk of the law. -/
import Derived.Test.YtnlcddjdedidlaaDoorPDtBx
import Derived.Test.YtnlcddjdedidlaaDoorDeedFn
namespace Go.Proofs.YtnlcddjdedidlaaDoor.PureDt
open Go.RowKit Go.Proofs.YtnlcddjdedidlaaDoorW.PrintWords Go.Proofs.YtnlcddjdedidlaaDoor.Txt Go.Proofs.YtnlcddjdedidlaaDoor.Deed Go.Proofs.YtnlcddjdedidlaaDoor.PDtA Go.Proofs.YtnlcddjdedidlaaDoor.PDtB
theorem law (u a : Int) : laws_FnExactDeedText.f u a = some true := by
  have hto : laws_toDeed.f u a = some (u, a) := rfl
  unfold laws_FnExactDeedText.f
  by_cases h : 1 ≤ u ∧ u ≤ 6 ∧ 0 ≤ a ∧ a ≤ 999
  · obtain ⟨d, hd, hs, hz⟩ := small_text a h.2.2.1 h.2.2.2
    have h1 : spec_DeedText.f u a = some (word u ++ ⟨#[32]⟩ ++ d) := by
      unfold spec_DeedText.f
      rw [if_pos h, hs, Option.bind_some, if_pos hz]
    have hv : impl_ValidDeed.f u a = some true := by
      simp [impl_ValidDeed.f, impl_within.f, h.1, h.2.1, h.2.2.1, h.2.2.2]
    have h2 : impl_DeedText.f u a = some (word u ++ ⟨#[32]⟩ ++ d) := by
      unfold impl_DeedText.f
      rw [hv, Option.bind_some, if_pos rfl]
      unfold impl_deedText.f
      rw [if_pos ⟨h.1, h.2.1⟩, hd, Option.bind_some, if_pos hz, Option.bind_some]
    rw [hto, Option.bind_some, h1, Option.bind_some, Option.bind_some, h2, Option.bind_some, if_pos rfl]
  · have hf : spec_l08Deed.f u a = some false := by
      unfold spec_l08Deed.f spec_l00In.f
      repeat' split
      all_goals simp_all
      all_goals omega
    have hv : impl_ValidDeed.f u a = some false := by
      unfold impl_ValidDeed.f impl_within.f
      repeat' split
      all_goals simp_all
      all_goals omega
    have h1 : spec_DeedText.f u a = some ⟨#[]⟩ := by
      unfold spec_DeedText.f
      rw [if_neg h, hf, Option.bind_some, if_pos rfl]
    have h2 : impl_DeedText.f u a = some ⟨#[]⟩ := by
      unfold impl_DeedText.f
      rw [hv, Option.bind_some, if_neg (by decide)]
    rw [hto, Option.bind_some, h1, Option.bind_some, Option.bind_some, h2, Option.bind_some, if_pos rfl]
end Go.Proofs.YtnlcddjdedidlaaDoor.PureDt
namespace Go.Proofs.YtnlcddjdedidlaaDoor.WFnExactDeedText
open Go.RowKit Go.Proofs.YtnlcddjdedidlaaDoorW.PrintWords Go.Proofs.YtnlcddjdedidlaaDoor.Txt Go.Proofs.YtnlcddjdedidlaaDoor.PDtB
theorem walk (W : World) (hG : Glob W) (l0 : List Value) (y0 : Int × Int) (k0 : (Kd.pair (Kd.int .i64) (Kd.int .i64)).K W y0 l0) (_b0 : (Lit.int .i64 y0.1).wf = true ∧ (Lit.int .i64 y0.2).wf = true) :
    Calls Tryd.prog 3 #[.agg l0.toArray] W fun e W' => e = .returned (.bool true) ∧ Below W.heap.size W W' := by
  obtain ⟨l1, l2, rfl, h1, h2⟩ := k0
  obtain rfl : l1 = [.int .i64 y0.1] := h1
  obtain rfl : l2 = [.int .i64 y0.2] := h2
  exact laws_FnExactDeedText.calls y0.1 y0.2 true W hG rfl (PureDt.law y0.1 y0.2)
end Go.Proofs.YtnlcddjdedidlaaDoor.WFnExactDeedText
