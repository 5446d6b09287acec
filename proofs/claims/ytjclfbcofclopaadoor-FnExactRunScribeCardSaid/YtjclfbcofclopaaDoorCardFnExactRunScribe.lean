/- THE TIED CARD of the law FnExactRunScribe. -/
import Derived.Test.YtjclfbcofclopaaDoorLawFnExactRunScribe
import Derived.Test.YtjclfbcofclopaaDoorCards
import Derived.Test.YtjclfbcofclopaaDoorTie
import Derived.SevenTiedAt
namespace Go.Proofs.YtjclfbcofclopaaDoor
open Go
theorem fnExactRunScribe_card : Rows.FnExactRunScribeCardSaid :=
  Claim7.holds_tied_plain_at .later [] [.data, .pinned] true (true, "8a5931706a185981572694e0b4848c9037f476c311f4a470f80e2a1a48309b41") true
    fnExactRunScribe_holds (fun _ h => by cases h) (by kernel_rfl) (fun _ h => by cases h) fnExactRunScribe_row_tie rfl ⟨rfl, rfl⟩ (by kernel_rfl) rfl
    (fun f fn hf hfn => by
      obtain rfl : f = 4 := Option.some.inj ((show Tryd.prog.funcNamed "loop.example/g01168/laws.FnExactRunScribe" = some 4 by kernel_rfl).symm.trans hf) |>.symm
      obtain rfl : fn = Tryd.f4 := (Option.some.inj (Tryd.func4.symm.trans hfn)).symm
      exact ⟨by kernel_rfl, fun j t ht => by
        rw [Tryd.params4] at ht
        have hm : t ∈ [37, 9] := by simpa using Array.mem_of_getElem? ht
        have hall : ([37, 9].all fun u => !Tryd.prog.wantsStandIn u) = true := by kernel_rfl
        exact (show Tryd.prog.wantsStandIn t = false by simpa using List.all_eq_true.1 hall t hm)⟩)
    (by kernel_rfl)
#print axioms fnExactRunScribe_card
end Go.Proofs.YtjclfbcofclopaaDoor
