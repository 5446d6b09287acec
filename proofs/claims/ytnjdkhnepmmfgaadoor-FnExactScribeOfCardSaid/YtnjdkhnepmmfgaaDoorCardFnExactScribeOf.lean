/- THE TIED CARD of the law FnExactScribeOf. -/
import Derived.Test.YtnjdkhnepmmfgaaDoorCore5
import Derived.Test.YtnjdkhnepmmfgaaDoorCards
import Derived.Test.YtnjdkhnepmmfgaaDoorTie
import Derived.SevenTiedAt
namespace Go.Proofs.YtnjdkhnepmmfgaaDoor
open Go
theorem fnExactScribeOf_card : Rows.FnExactScribeOfCardSaid :=
 Claim7.holds_tied_plain_at .later [] [.data, .data, .data] true (true, "0068d5a150a074a4f92c5fd215a46a5fc3c7f104f476b5cf36f5e1ed669cf291") false
  fnExactScribeOf_holds (fun _ h => by cases h) (by kernel_rfl) (fun _ h => by cases h) fnExactScribeOf_row_tie rfl ⟨rfl, rfl⟩ (by kernel_rfl) rfl
  (fun f fn hf hfn => by
   obtain rfl : f = 4 := Option.some.inj ((show Tryd.prog.funcNamed "loop.example/g01168/laws.FnExactScribeOf" = some 4 by kernel_rfl).symm.trans hf) |>.symm
   obtain rfl : fn = Tryd.f4 := (Option.some.inj (Tryd.func4.symm.trans hfn)).symm
   exact ⟨by kernel_rfl, fun j t ht => by
    rw [Tryd.params4] at ht
    have hm : t ∈ [25] := by simpa using Array.mem_of_getElem? ht
    have hall : ([25].all fun u => !Tryd.prog.wantsStandIn u) = true := by kernel_rfl
    exact (show Tryd.prog.wantsStandIn t = false by simpa using List.all_eq_true.1 hall t hm)⟩)
  (by kernel_rfl)
#print axioms fnExactScribeOf_card
end Go.Proofs.YtnjdkhnepmmfgaaDoor
