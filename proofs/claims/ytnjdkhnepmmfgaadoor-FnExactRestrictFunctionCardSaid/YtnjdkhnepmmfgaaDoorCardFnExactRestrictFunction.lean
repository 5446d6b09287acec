/- THE TIED CARD of the law FnExactRestrictFunction. -/
import Derived.Test.YtnjdkhnepmmfgaaDoorCore5
import Derived.Test.YtnjdkhnepmmfgaaDoorCards
import Derived.Test.YtnjdkhnepmmfgaaDoorTie
import Derived.SevenTiedAt
namespace Go.Proofs.YtnjdkhnepmmfgaaDoor
open Go
theorem fnExactRestrictFunction_card : Rows.FnExactRestrictFunctionCardSaid :=
 Claim7.holds_tied_plain_at .later [] [.data, .data, .data] true (true, "0068d5a150a074a4f92c5fd215a46a5fc3c7f104f476b5cf36f5e1ed669cf291") false
  fnExactRestrictFunction_holds (fun _ h => by cases h) (by kernel_rfl) (fun _ h => by cases h) fnExactRestrictFunction_row_tie rfl ⟨rfl, rfl⟩ (by kernel_rfl) rfl
  (fun f fn hf hfn => by
   obtain rfl : f = 3 := Option.some.inj ((show Tryd.prog.funcNamed "loop.example/g01168/laws.FnExactRestrictFunction" = some 3 by kernel_rfl).symm.trans hf) |>.symm
   obtain rfl : fn = Tryd.f3 := (Option.some.inj (Tryd.func3.symm.trans hfn)).symm
   exact ⟨by kernel_rfl, fun j t ht => by
    rw [Tryd.params3] at ht
    have hm : t ∈ [25, 25] := by simpa using Array.mem_of_getElem? ht
    have hall : ([25, 25].all fun u => !Tryd.prog.wantsStandIn u) = true := by kernel_rfl
    exact (show Tryd.prog.wantsStandIn t = false by simpa using List.all_eq_true.1 hall t hm)⟩)
  (by kernel_rfl)
#print axioms fnExactRestrictFunction_card
end Go.Proofs.YtnjdkhnepmmfgaaDoor
