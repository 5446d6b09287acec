/- THE TIED CARD of the law FnExactDeedText. -/
import Derived.Test.YtnlcddjdedidlaaDoorLawFnExactDeedText
import Derived.Test.YtnlcddjdedidlaaDoorCards
import Derived.Test.YtnlcddjdedidlaaDoorTie
import Derived.SevenTiedAt
namespace Go.Proofs.YtnlcddjdedidlaaDoor
open Go
theorem fnExactDeedText_card : Rows.FnExactDeedTextCardSaid :=
  Claim7.holds_tied_plain_at .later [] [.data, .data, .data] true (true, "9394e47f0caa40443991edc8f276b4abcc2400323a8ed443f7e68d9e6073f7e2") false
    fnExactDeedText_holds (fun _ h => by cases h) (by kernel_rfl) (fun _ h => by cases h) fnExactDeedText_row_tie rfl ⟨rfl, rfl⟩ (by kernel_rfl) rfl
    (fun f fn hf hfn => by
      obtain rfl : f = 3 := Option.some.inj ((show Tryd.prog.funcNamed "loop.example/g01168/laws.FnExactDeedText" = some 3 by kernel_rfl).symm.trans hf) |>.symm
      obtain rfl : fn = Tryd.f3 := (Option.some.inj (Tryd.func3.symm.trans hfn)).symm
      exact ⟨by kernel_rfl, fun j t ht => by
        rw [Tryd.params3] at ht
        have hm : t ∈ [23] := by simpa using Array.mem_of_getElem? ht
        have hall : ([23].all fun u => !Tryd.prog.wantsStandIn u) = true := by kernel_rfl
        exact (show Tryd.prog.wantsStandIn t = false by simpa using List.all_eq_true.1 hall t hm)⟩)
    (by kernel_rfl)
#print axioms fnExactDeedText_card
end Go.Proofs.YtnlcddjdedidlaaDoor
