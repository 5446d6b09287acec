/- THE TIED CARD of the law FnExactOutputsIn. -/
import Derived.Test.YtbamnonamdpooaaDoorCore5
import Derived.Test.YtbamnonamdpooaaDoorCards
import Derived.Test.YtbamnonamdpooaaDoorTie
import Derived.SevenTiedAt
namespace Go.Proofs.YtbamnonamdpooaaDoor
open Go
theorem fnExactOutputsIn_card : Rows.FnExactOutputsInCardSaid :=
 Claim7.holds_tied_plain_at .later [] [.data, .data, .data] true (true, "5394e8975338e066a81e2b6abf546032484e2161aa5464c32db47c705b4a6457") false
  fnExactOutputsIn_holds (fun _ h => by cases h) (by kernel_rfl) (fun _ h => by cases h) fnExactOutputsIn_row_tie rfl ⟨rfl, rfl⟩ (by kernel_rfl) rfl
  (fun f fn hf hfn => by
   obtain rfl : f = 11 := Option.some.inj ((show Tryd.prog.funcNamed "loop.example/g01168/laws.FnExactOutputsIn" = some 11 by kernel_rfl).symm.trans hf) |>.symm
   obtain rfl : fn = Tryd.f11 := (Option.some.inj (Tryd.func11.symm.trans hfn)).symm
   exact ⟨by kernel_rfl, fun j t ht => by
    rw [Tryd.params11] at ht
    have hm : t ∈ [25] := by simpa using Array.mem_of_getElem? ht
    have hall : ([25].all fun u => !Tryd.prog.wantsStandIn u) = true := by kernel_rfl
    exact (show Tryd.prog.wantsStandIn t = false by simpa using List.all_eq_true.1 hall t hm)⟩)
  (by kernel_rfl)
#print axioms fnExactOutputsIn_card
end Go.Proofs.YtbamnonamdpooaaDoor
